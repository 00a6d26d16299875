/- Part of the proof that the law RefuseLeast returns true and leaves its arguments as they were, for all arguments of bulk at most 1048576 (the Upto form). -/
import Derived.Test.YtaikmgjfkejlkaaGreatS103
import Derived.TacticsIn
import Derived.OrdersIn
set_option linter.all false
set_option maxHeartbeats 4000000
set_option maxRecDepth 100000
section
namespace Go.Sx
open Go.RowKit
section
variable {P:Program}{F:Nat->Prop}{own:Own}{w:World}{ts:Tis}
def Sq (v:Value)(vs:Array Value):Sem Next:=do
 let d <-Deferred.ofValue v vs
 invoke d.target d.args
variable {t:TypeId}
theorem C6(w:World)(m:Nat){e:TypeId}(E:Option Addr)(n c:Nat)(hd:P.underlying t=some (.slice e)):(Op.equalIn (m+1) t (.slice E n c) (.slice none 0 0)).run P w=.ok E.isNone w:=by
 cases E <;>simp[Op.equalIn,run_underlying hd]
def Mb (P:Program)(F:Nat->Prop)(own:Own)(w:World)(h:List Ob)(run:Result Next):OR->Prop
 | .val s=>∃ u,run=.ok (.value u) w/\Rel F own w s u| .chk c s=>c->∃ u,run=.ok (.value u) w/\Rel F own w s u| .asm c s=>c/\∃ u,run=.ok (.value u) w/\Rel F own w s u| .apY s=>∃ u cs ty,run=.ok (.value u) (w.alloc (.cells cs ty))/\Rel F own (w.alloc (.cells cs ty)) s u| .eff c a ups s=>c->a/\∃ u bn w',(run=.ok (.value u) w'\/(run=.ok .skip w'/\u=undef))/\Rel F bn w' s u/\Step F own w (bb h ups) bn w'| .call f args=>∃ vs:Array Value,apx F own w args vs/\run=(callFunc f vs).run P w| .yld id args=>∃ hd,own id=some hd/\∃ vs,apx F own w args vs/\run=(Sq hd.v vs).run P w| .nxt id=>∃ hd b,own id=some hd/\hd.p=some b/\∃ ty,∀ u w',(Instr.next (.pointer (some ⟨b,0,none⟩)) false ty).run P w=.ok u w'->run=.ok (.value u) w'| .amb p=>∃ b,p b/\run=.ok (.value (.bool b)) w| .pan x=>run=.halt (.panic x) w| .bad=>True
theorem Mc {cx:Cx}{a:Act}(E:∀ x,Rel F own w (val cx x) (a.eval x)):∀ (l:List Operand),(dm cx l).length=l.length/\∀ (j:Nat) (s:SV),(dm cx l)[j]? =some s->∃ x,l[j]? =some x/\Rel F own w s (a.eval x)
 | [] =>⟨rfl,λj s h=>by simp[dm]at h⟩
 |x::r=>by
  obtain⟨h1,h2⟩:=Mc E r;grind [dm]
theorem uC {cx:Cx}{a:Act}(E:∀ x,Rel F own w (val cx x) (a.eval x))(l:Array Operand):apx F own w (dm cx l.toList) (l.map a.eval):=by
 obtain⟨h1,h2⟩:=Mc E l.toList;refine⟨by simp[h1],λj s O=>?_⟩;simp_all <;>grind
theorem Bl {cx:Cx}{a:Act}(E:∀ x,Rel F own w (val cx x) (a.eval x)):∀ (l:List (Nat×Operand)),(iD cx l).map (·.1)=(l.map λ(i,x) =>(i,a.eval x)).map (·.1)/\
  ∀ (j:Nat) (x:Nat×SV) (y:Nat×Value),(iD cx l)[j]? =some x->(l.map λ(i,x) =>(i,a.eval x))[j]? =some y->Rel F own w x.2 y.2
 | [] =>⟨rfl,λj x y h=>by grind⟩
 |(i,x)::r=>by
  obtain⟨h1,h2⟩:=Bl E r;grind [iD]
variable {r:OR}
theorem b_{k:TI->OR}(E:ts.ok P)(h:aJ ts t k=r)(U:r≠ .bad):∃ ti,jg P t=some ti/\k ti=r:=by
 unfold aJ at h;cases O:ts t with
 |none=>grind|some i=>simp[O]at h;exact⟨i,E t i O,h⟩
variable {h:List Ob}
theorem ar7{E:Result Next}(O:r≠ .bad->Mb P F own w h E r):Mb P F own w h E r:=by
 cases r with
 |bad=>trivial
 |_=>exact O (by simp)
theorem af1 {s:Sem Value}{u:Value}(h:s.run P w=.ok u w):(do pure (Next.value (<-s)):Sem Next).run P w=.ok (.value u) w:=by
 simp[h]
variable {a:Operand}
theorem Md(h:D9 a=true):a=.const (.bool true):=by
 grind [D9]
theorem J1(h:zM a=true):a=.const (.bool false):=by
 grind [zM]
theorem nZ{x:Option SV}(h:uq x=r)(E:r≠ .bad):∃ s,x=some s/\r=.val s:=by
 cases x with
 |none=>exact absurd h.symm E|some s=>exact⟨s,rfl,h.symm⟩
theorem uD{s:Sem Value}(E:CC F own w h (s.run P w) r):Mb P F own w h ((do pure (Next.value (<-s)):Sem Next).run P w) r:=by
 obtain⟨c,a,ups,V,rfl,h1⟩:=E;intro hc;obtain⟨U,u,bn,w',h2,O,W⟩:=h1 hc;simp_all
theorem Me{ti:TI}{s:SV}(e:qC ti h s=r)(V:r≠ .bad):∃ s',r=.val s':=by
 have U:∀ {a:Bool} {n off:Nat} {o:Ob},zN a n off o=r->∃ s',r=.val s':=by
  intro a n off o e;unfold zN at e;split at e
  obtain⟨s',_,h'⟩:=nZ e V;grind;grind
 have O:∀ {a:Bool} {n z id off:Nat} {i:Int} {o:Ob},Ea a n z id i off o=r->∃ s',r=.val s':=by
  intro a n z id off i o e;unfold Ea at e;split at e
  rename_i k l;cases W:Nat.beq z (aa k)with
  |false=>grind
  |true=>rw[W]at e;obtain⟨s',_,h'⟩:=nZ e V;grind
  grind
  grind
 have E:∀ {a:Bool} {n z off:Nat} {i j:Int} {o:Ob},A_ a n z i j off o=r->∃ s',r=.val s':=by
  intro a n z off i j o e;unfold A_ at e;split at e
  rename_i k l;cases W:Nat.beq z (aa k)with
  |false=>grind
  |true=>rw[W]at e;obtain⟨s',_,h'⟩:=nZ e V;grind
  grind
 unfold qC at e;split at e
 grind
 obtain⟨s',_,h'⟩:=nZ e V;grind;exact O e;exact E e;grind
theorem OP{n:Nat}{s:SV}(e:Ba n s=r)(E:r≠ .bad):∃ s',r=.val s':=by
 unfold Ba at e;grind
theorem Aa {cx:Cx}{a:Act}(E:∀ x,Rel F own w (val cx x) (a.eval x))(o:Option Operand):(∀ s,ov cx o=some s->∃ u,o.map a.eval=some u/\Rel F own w s u)/\(ov cx o=none->o.map a.eval=none):=by
 cases o with
 |none=>grind [ov]|some x=>grind [ov]
variable {l:List SV}
def QF(V:Hp F own w h){nx:Nat}(O:ap9 own h nx){v:Value}{ty:TypeId}(E:apx F own w l v.cells):Step F own w (bb h [(nx,Ob.cells l)]) (own.set nx ⟨some w.heap.size,undef,[],[w.heap.size]⟩) (w.alloc (.cells v.cells ty))/\Rel F (own.set nx ⟨some w.heap.size,undef,[],[w.heap.size]⟩) (w.alloc (.cells v.cells ty)) (.ptr nx 0) (.pointer (some ⟨w.heap.size,0,none⟩)):=
 ⟨uu V O (w1:=w) ⟨rfl,rfl,rfl,rfl⟩ (.cells v.cells ty) (.cells l) _ rfl λbn g=>⟨w.heap.size,v.cells,ty,rfl,rfl,kz _ _,E.1,λj s U=>(E.2 j s U).mono g⟩,.ptr (Own.apy _ _ _) rfl⟩
theorem apx.app{m:List SV}{E vs:Array Value}(h1:apx F own w l E)(h2:apx F own w m vs):apx F own w (l++m) (E++vs):=by
 refine⟨by simp[h1.1,h2.1],λj s O=>?_⟩;rw[amC]at O;split at O
 rename_i hlt;rw[tO (j:=j) (ws:=E) (by rw[al6 (by rw[h1.1];exact hlt)])];exact h1.2 j s O;rename_i hlt;rw[tO (j:=j - E.size) (ws:=vs) (by rw[am4 (by rw[h1.1];omega)])];rw[h1.1];exact h2.2 _ s O
theorem OQ{ops:List Oper}{g:Option (Nat×Bool)}{t:List (Nat×SV)}{nx:Nat}(O:ts.ok P)(hp:Hp F own w h)(hn:ap9 own h nx){a:Act}{o:Oper}
  (X:∀ x,Rel F own w (val ⟨ts,ops,g,⟨t,h⟩,nx⟩ x) (a.eval x))
  (hpk:∀ c x y,o.op=.pick c x y->(a.eval c=.bool true->Rel F own w (ky ops g c true (raw t x)) (a.eval x))/\(a.eval c=.bool false->Rel F own w (ky ops g c false (raw t y)) (a.eval y))):
  Mb P F own w h ((execOp a.eval o).run P w) (opS ⟨ts,ops,g,⟨t,h⟩,nx⟩ o.op):=by
 obtain⟨dst,op,ty,pos,after,guard⟩:=o;simp only at hpk |-;refine ar7 λE=>?_;generalize he:opS ⟨ts,ops,g,⟨t,h⟩,nx⟩ op=r at E |-;cases op with
 |move x=>subst he;exact⟨_,rfl,X x⟩|assign x=>subst he;exact⟨_,rfl,X x⟩
 |pick c x y=>
  obtain⟨h1,h2⟩:=hpk c x y rfl;have hc:Rel F own w (bH ops g (raw t c)) (a.eval c):=X c;change D_ x y (bH ops g (raw t c)) (ky ops g c true (raw t x)) (ky ops g c false (raw t y))=r at he;unfold D_ at he;split at he
  rename_i sx sy sz bc bx bz hsc hsx hsy;rw[hsc]at hc;rw[hsx]at h1;rw[hsy]at h2;have hec:=cG hc;have W:(execOp a.eval { dst:=dst,op:=.pick c x y,type:=ty,pos:=pos,after:=after,guard:=guard}).run P w=.ok (.value (if bc then a.eval x else a.eval y)) w:=by
   simp[execOp,hec,asBool]
  cases hx:D9 x with
  |true=>
   simp only[hx,cond_true]at he;subst he;refine⟨_,W,?_⟩;have hx':=Md hx;cases bc with
   |true=>simp only[if_true,hx'];exact .v _|false=>grind
  |false=>
   cases hy:zM y with
   |true=>
    simp only[hx,hy,cond_true,cond_false]at he;subst he;refine⟨_,W,?_⟩;have hy':=J1 hy;cases bc with
    |true=>grind
    |false=>rw[if_neg (by simp),hy'];exact .v _
   |false=>grind
  rename_i sx sy sz bc bz hsc hsx hsy;rw[hsc]at hc;rw[hsy]at h2;have hec:=cG hc;subst he;intro hcf;simp_all [execOp,asBool];rename_i sx sy sz bc bx hsc hsx hsy;rw[hsc]at hc;rw[hsx]at h1;have hec:=cG hc;subst he;intro hcf;simp_all [execOp,asBool];grind
 |alloc V=>
  obtain⟨ti,Y,he⟩:=b_ (k:=λti=>JD nx (some ti.zero)) O he E;subst he;obtain⟨i,d,z,hi,hd,hz,hq,rfl⟩:=bV Y;have hzz:(dG P V i d).zero=svs z:=by simp[dG,hz]
  intro _;obtain⟨q1,q2⟩:=QF (ty:=V) hp hn (l:=svs z) (v:=z) (xH z);rw[hzz];exact⟨trivial,_,_,_,.inl (by simp[execOp,Instr.alloc,zeroValue,typeInfo,hi,hz,newVar,newRow]),q2,q1⟩
 |box V x=>
  change JD nx (pg (val _ x))=r at he;cases hf:pg (val ⟨ts,ops,g,⟨t,h⟩,nx⟩ x)with
  |none=>rw[hf]at he;exact absurd he.symm E
  |some l=>
   rw[hf]at he;subst he;intro _;obtain⟨q1,q2⟩:=QF (ty:=V) hp hn (v:=a.eval x) (Et (X x) hf);exact⟨trivial,_,_,_,.inl (by rfl),q2,q1⟩
 |build V U=>
  obtain⟨ti,Y,he⟩:=b_ (k:=λti=>bif ti.apZ then aJ ts ti.elem λte=>Ol (lE (λi=>some (i*te.size,te.size)) ti.zero (iD ⟨ts,ops,g,⟨t,h⟩,nx⟩ U.toList))
   else bif ti.agg then Ol (lE (λi=>(nth ti.fields i).map λf:Nat×Nat×Bool=>(f.1,f.2.1)) ti.zero (iD ⟨ts,ops,g,⟨t,h⟩,nx⟩ U.toList))else .bad) O he E
  obtain⟨p1,p2⟩:=Bl X U.toList;have W:(execOp a.eval { dst:=dst,op:=.build V U,type:=ty,pos:=pos,after:=after,guard:=guard})=(do pure (Next.value (<-Instr.build V (U.map λ(i,x) =>(i,a.eval x))))):=rfl;have key:∃ l,r=.val (.agg l)/\((ti.apZ=true/\∃ te,jg P ti.elem=some te/\lE (λi=>some (i*te.size,te.size)) ti.zero (iD ⟨ts,ops,g,⟨t,h⟩,nx⟩ U.toList)=some l)\/
     (ti.apZ=false/\ti.agg=true/\lE (λi=>(nth ti.fields i).map λf=>(f.1,f.2.1)) ti.zero (iD ⟨ts,ops,g,⟨t,h⟩,nx⟩ U.toList)=some l)):=by
   cases ha:ti.apZ with
   |true=>
    simp only[ha,cond_true]at he;obtain⟨te,hte,he⟩:=b_ O he E;cases hf:lE (λi=>some (i*te.size,te.size)) ti.zero (iD ⟨ts,ops,g,⟨t,h⟩,nx⟩ U.toList)with
    |none=>simp only[hf]at he;exact absurd he.symm E|some l=>simp only[hf]at he;exact⟨l,he.symm,.inl ⟨rfl,te,hte,hf⟩⟩
   |false=>
    cases hg:ti.agg with
    |false=>grind
    |true=>
     simp only[ha,hg,cond_false,cond_true]at he;cases hf:lE (λi=>(nth ti.fields i).map λf=>(f.1,f.2.1)) ti.zero (iD ⟨ts,ops,g,⟨t,h⟩,nx⟩ U.toList)with
     |none=>simp only[hf]at he;exact absurd he.symm E|some l=>simp only[hf]at he;exact⟨l,he.symm,.inr ⟨rfl,rfl,rfl⟩⟩
  obtain⟨l,rfl,hcase⟩:=key;obtain⟨u,e1,e2⟩:=Ua (P:=P) Y (vps:=U.map λ(i,x) =>(i,a.eval x)) (by simpa using p1) (by simpa using p2) hcase;exact⟨u,by simp_all,e2⟩
 |buildSlice V n U=>
  obtain⟨ti,Y,he⟩:=b_ (k:=λti=>aJ ts ti.elem λte=>Hg (JE V ops g) nx te (bsS ti te n (iD ⟨ts,ops,g,⟨t,h⟩,nx⟩ U.toList))) O he E;obtain⟨te,hte,he⟩:=b_ (k:=λte=>Hg (JE V ops g) nx te (bsS ti te n (iD ⟨ts,ops,g,⟨t,h⟩,nx⟩ U.toList))) O he E;obtain⟨p1,p2⟩:=Bl X U.toList;have hne:bsS ti te n (iD ⟨ts,ops,g,⟨t,h⟩,nx⟩ U.toList)≠ .bad:=λe=>by rw[e]at he;exact E he.symm
  obtain⟨s,cs,ty2,u,hs0,e1,e2,e3⟩:=aa7 (P:=P) hp Y hte (n:=n) (vps:=U.map λ(i,x) =>(i,a.eval x)) (by simpa using p1) (by grind) rfl hne;rw[hs0]at he;have plain:r=.apY s->Mb P F own w h ((execOp a.eval ⟨dst,.buildSlice V n U,ty,pos,after,guard⟩).run P w) r:=λe=>by
   subst e;exact⟨u,cs,ty2,by simp[execOp,e1],e2⟩
  cases s with
  |rs k xs=>
   change (bif(te.agg||one xs)&&noG (JE V ops g)then OR.eff True True [(nx,.row k xs)] (.os nx)else .apY (.rs k xs))=r at he;cases hb:(te.agg||one xs)&&noG (JE V ops g)with
   |false=>grind
   |true=>
    rw[hb]at he;subst he;obtain⟨m1,m2,m3,m4⟩:=e3 k xs rfl;refine λ_=>⟨trivial,u,own.set nx ⟨none,.slice (some ⟨w.heap.size,0,none⟩) xs.length xs.length,[],[w.heap.size]⟩,w.alloc (.cells cs ty2),.inl (by simp[execOp,e1]),?_,?_⟩;rw[m1];exact Rel.os (F:=F) (id:=nx) (hd:=⟨none,.slice (some ⟨w.heap.size,0,none⟩) xs.length xs.length,[],[w.heap.size]⟩) (Own.apy _ _ _) rfl;exact uu hp hn (w1:=w) ⟨rfl,rfl,rfl,rfl⟩ _ _ _ rfl λbn g=>.inr ⟨w.heap.size,0,xs.length,cs,ty2,rfl,rfl,kz _ _,by omega,alJ _,m3,λq x hx j s hj=>by
     obtain⟨u',h1,h2⟩:=m4 q x hx j s hj;exact⟨u',h1,h2.mono g⟩⟩
  |_=>exact plain he.symm
 |load V x=>
  obtain⟨ti,Y,he⟩:=b_ (k:=λti=>qC ti h (val ⟨ts,ops,g,⟨t,h⟩,nx⟩ x)) O he E;obtain⟨s',rfl⟩:=Me he E;obtain⟨u,e1,e2⟩:=LX (P:=P) hp Y (X x) he;exact⟨u,by simp_all [execOp],e2⟩
 |store V x y=>
  obtain⟨ti,Y,he⟩:=b_ (k:=λti=>rh ti.size nx h (val ⟨ts,ops,g,⟨t,h⟩,nx⟩ x) (val ⟨ts,ops,g,⟨t,h⟩,nx⟩ y)) O he E;obtain⟨ups,bn,w',rfl,e1,e2⟩:=Sp (P:=P) hp hn Y (X x) (X y) he E;exact λ_=>⟨trivial,undef,bn,w',.inr ⟨by simp[execOp,e1],rfl⟩,.any _,e2⟩
 |nilCheck x=>
  have hx:=X x;change TK (val _ x)=r at he;generalize hvx:a.eval x=vx at hx;unfold TK at he;split at he
  rename_i id off hs;subst he;rw[hs]at hx;cases hx with
  |ptr q1 q2=>exact⟨_,by simp[execOp,hvx],.ptr q1 q2⟩
  rename_i l off hs;subst he;rw[hs]at hx;cases hx with
  |ep cf q1 q2=>exact⟨_,by simp[execOp,hvx],.ep cf q1 q2⟩
  rename_i hs;subst he;rw[hs]at hx;cases hx with
  |rp q1 q2 q3=>exact⟨_,by simp[execOp,hvx],.rp q1 q2 q3⟩
  rename_i hs;subst he;rw[hs]at hx;cases hx with
  |gp q1 q2 q3=>exact⟨_,by simp[execOp,hvx],.gp q1 q2 q3⟩
  rename_i f first caps hs
  subst he;rw[hs]at hx;cases hx with
  |fn q1 q2 q3 q4=>exact⟨_,by simp[execOp,hvx],.fn q1 q2 q3 q4⟩
  grind
 |binOp op xt x y yt=>
  change Jy ts op xt (val _ x) (val _ y)=r at he;have hx:=X x;have hy:=X y;generalize val ⟨ts,ops,g,⟨t,h⟩,nx⟩ x=sx at hx he;generalize val ⟨ts,ops,g,⟨t,h⟩,nx⟩ y=sy at hy he;have W:∀ {vx vy:Value},a.eval x=vx->a.eval y=vy->(eqGuard op xt x y vx vy).run P w=.ok () w->∀ u,(Go.binOp op xt vx vy).run P w=.ok u w->(execOp a.eval { dst:=dst,op:=.binOp op xt x y yt,type:=ty,pos:=pos,after:=after,guard:=guard}).run P w=.ok (.value u) w:=by
   simp_all [execOp]
  unfold Jy at he;split at he
  rename_i k m k' n;obtain⟨hsk,h3⟩:=Ox he E;have ex:=cG hx;have ey:=cG hy;cases r with
  |val s=>
   obtain⟨u,e1,rfl⟩:=R8 (P:=P) (w:=w) (ty:=xt) hsk h3.symm;exact⟨u,W ex ey (Cy ..) u e1,.v u⟩
  |chk c s=>
   intro hc;obtain⟨u,e1,rfl⟩:=R9 (P:=P) (w:=w) (ty:=xt) hsk h3.symm hc;exact⟨u,W ex ey (Cy ..) u e1,.v u⟩
  |bad=>grind|_=>exfalso;cases op <;>simp[uo]at h3
  obtain⟨ti,Y,he⟩:=b_ (k:=λti=>eqS op ti sx sy) O he E;obtain⟨i,d,z,hi,hd,hz,hq,rfl⟩:=bV Y;unfold eqS at he;split at he
  rename_i l _ _;have ey:=cG hy;cases hb:(dG P xt i d).isSlice with
  |false=>grind
  |true=>
   rw[hb]at he;simp only[cond_true]at he;have hds:∃ e,d=.slice e:=by cases d <;>simp[dG]at hb;grind
   obtain⟨e,rfl⟩:=hds;have hg:∀ (ad:Option Addr) (n c:Nat),(eqGuard op xt x y (.slice ad n c) (.slice none 0 0)).run P w=.ok () w:=λad n c=>by simp_all [eqGuard]
   have hq:∀ (ad:Option Addr) (n c:Nat),(Op.equal xt (.slice ad n c) (.slice none 0 0)).run P w=.ok ad.isNone w:=λad n c=>by
    grind [C6,Op.equal,Op.maxDepth]
   have hsl:∃ ad n c,a.eval x=.slice ad n c/\(ad.isNone=true->l=[]):=by
    generalize a.eval x=vx at hx;cases hx <;>grind
   obtain⟨ad,n,c,hvx,hl⟩:=hsl;cases op <;>simp only[XL]at he <;>first|exact absurd he.symm E|subst he
   exact⟨ad.isNone,hl,W hvx ey (hg _ _ _) _ (by simp[Go.binOp,hq])⟩;exact⟨!ad.isNone,λh=>hl (by simpa using h),W hvx ey (hg _ _ _) _ (by simp[Go.binOp,hq])⟩
  rename_i b1 b2 _ _;have ex:=cG hx;have ey:=cG hy;have hg:(eqGuard op xt x y (.string b1) (.string b2)).run P w=.ok () w:=by simp_all [eqGuard]
  cases hb:Nat.beq (dG P xt i d).sc 2 with
  |false=>grind
  |true=>
   rw[hb]at he;simp only[cond_true]at he;cases op <;>simp only[Qm]at he <;>first|exact absurd he.symm E|subst he
   exact⟨_,W ex ey hg _ (by simp[Go.binOp,Op.stringOp,beq_toListBytes,bne]),.v _⟩;exact⟨_,W ex ey hg _ (by simp[Go.binOp,Op.stringOp,beq_toListBytes,bne]),.v _⟩
  rename_i b1 b2 _ _;have ex:=cG hx;have ey:=cG hy;have hg:(eqGuard op xt x y (.bool b1) (.bool b2)).run P w=.ok () w:=by simp_all [eqGuard]
  cases hb:Nat.beq (dG P xt i d).sc 3 with
  |false=>grind
  |true=>
   rw[hb]at he;simp only[cond_true]at he;have hc:=alH hb;have hdb:d=.bool:=by cases d <;>simp[dG,cq]at hc <;>rfl
   subst hdb;have heq:(Op.equal xt (.bool b1) (.bool b2)).run P w=.ok (b1==b2) w:=by unfold Op.equal Op.maxDepth;exact run_equalIn_bool' w 9999 xt b1 b2 hd
   cases op <;>simp only[Jx]at he <;>first|exact absurd he.symm E|subst he
   exact⟨_,W ex ey hg _ (by simp[Go.binOp,heq]),.v _⟩;exact⟨_,W ex ey hg _ (by simp[Go.binOp,heq,bne]),.v _⟩
  rename_i l m _ _;obtain⟨xs,ex,hxs⟩:=tQ hx;obtain⟨ys,ey,hys⟩:=tQ hy;unfold eqT aaN at he;split at he
  grind
  rename_i c cs hcs;have hcs':TH P xt d=c::cs:=hcs;cases hl:eqL (c::cs) l m with
  |none=>rw[hl]at he;exact absurd he.symm E
  |some b=>
   rw[hl]at he;have hany:(Op.equal xt (.agg xs) (.agg ys)).run P w=.ok b w/\P.eqGuardType P.depth xt=false:=by
    grind [Sk,L9,TH]
   obtain⟨q1,q2⟩:=hany;have hg:(eqGuard op xt x y (.agg xs) (.agg ys)).run P w=.ok () w:=run_eqGuard_agg w op xt x y xs ys q2;cases op <;>simp only[eqO]at he <;>first|exact absurd he.symm E|subst he
   exact⟨_,W ex ey hg _ (by simp[Go.binOp,q1]),.v _⟩;exact⟨_,W ex ey hg _ (by simp[Go.binOp,q1]),.v _⟩
  grind
 |unOp op xt x=>
  change unS op (val _ x)=r at he;have hx:=X x;unfold unS at he;split at he
  rename_i b hs;subst he;rw[hs]at hx;have ex:=cG hx;exact⟨_,by simp only[execOp,ex];rfl,.v _⟩;rename_i k n hs;subst he;rw[hs]at hx;have ex:=cG hx;exact⟨_,by simp only[execOp,ex];rfl,.v _⟩;grind
 |convert src dt x=>
  obtain⟨t1,ht1,he⟩:=b_ (k:=λ_=>aJ ts dt λti=>LM ti.int (val ⟨ts,ops,g,⟨t,h⟩,nx⟩ x)) O he E;obtain⟨t2,ht2,he⟩:=b_ O he E;obtain⟨i1,d1,z1,hi1,hd1,hz1,hq1,rfl⟩:=bV ht1;obtain⟨i2,d2,z2,hi2,hd2,hz2,hq2,rfl⟩:=bV ht2;have hx:=X x;unfold LM at he;split at he
  rename_i kd k' n hk hs;subst he;rw[hs]at hx;have ex:=cG hx;cases d2 <;>simp[dG]at hk;subst hk;refine⟨_,?_,.v _⟩;simp_all [execOp,Go.convert,run_underlying,Conv.intToInt];grind
 |panic x=>
  change TR (val _ x)=r at he;have hx:=X x;unfold TR at he;split at he
  rename_i t' y hs;subst he;rw[hs]at hx;have ex:=cG hx;simp only[Mb,execOp,ex];rfl;grind
 |makeInterface V x=>
  obtain⟨ti,Y,he⟩:=b_ (k:=λti=>bif ti.iface then .bad else Ec V (val ⟨ts,ops,g,⟨t,h⟩,nx⟩ x)) O he E;obtain⟨i,d,z,hi,hd,hz,hq,rfl⟩:=bV Y;have hx:=X x;cases hif:(dG P V i d).iface with
  |true=>grind
  |false=>
   simp only[hif,cond_false]at he;unfold Ec at he;split at he
   rename_i k n hs;subst he;rw[hs]at hx;have ex:=cG hx;refine⟨_,?_,.v _⟩;simp only[execOp,ex];apply af1;cases d <;>simp[dG]at hif <;>simp[Instr.makeInterface,run_underlying hd];grind
 |makeFunc fn first caps=>
  change LP fn (dm _ first.toList) (dm _ caps.toList)=r at he;unfold LP at he;split at he
  rename_i f;subst he;obtain⟨q1,q2⟩:=uC X caps;obtain⟨q3,q4⟩:=uC X first
  exact⟨.func (.func f) (first.map a.eval) (caps.map a.eval),by rfl,.fn q3 q1 q4 q2⟩;grind
 |fieldAddr V x f=>
  obtain⟨ti,Y,he⟩:=b_ (k:=λti=>match nth ti.fields f with|some (o,n,_) =>bif Nat.ble 1 n then Ba o (val ⟨ts,ops,g,⟨t,h⟩,nx⟩ x)else .bad|none=>.bad) O he E;cases hf:nth ti.fields f with
  |none=>grind
  |some q=>
   obtain⟨o,n,q⟩:=q;simp only[hf]at he;cases hn:Nat.ble 1 n with
   |false=>grind
   |true=>
    simp only[hn,cond_true]at he;obtain⟨s',rfl⟩:=OP he E;obtain⟨u,e1,e2⟩:=JR (P:=P) Y hf (Y2 hn) (X x) he;exact⟨u,by simp_all [execOp],e2⟩
 |field V x f=>
  obtain⟨ti,Y,he⟩:=b_ (k:=λti=>sw (nth ti.fields f) (zL (val ⟨ts,ops,g,⟨t,h⟩,nx⟩ x))) O he E;have hsh:∃ s',r=.val s':=by
   unfold sw at he;split at he
   obtain⟨s',_,e⟩:=nZ he E;grind;grind
  obtain⟨s',rfl⟩:=hsh;obtain⟨u,e1,e2⟩:=RZ (P:=P) Y (X x) he;exact⟨u,by simp_all [execOp],e2⟩
 |indexAddr V x i=>
  obtain⟨ti,Y,he⟩:=b_ (k:=λti=>aJ ts ti.elem λte=>ii ti te.size h (val ⟨ts,ops,g,⟨t,h⟩,nx⟩ x) (val ⟨ts,ops,g,⟨t,h⟩,nx⟩ i)) O he E;obtain⟨te,hte,he⟩:=b_ O he E;obtain⟨c,s',rfl,hc⟩:=R7 (P:=P) hp Y hte (X x) (X i) he E;intro hcc;obtain⟨u,e1,e2⟩:=hc hcc;simp_all [execOp]
 |extract x i=>
  have hx:=X x;change TQ i (val _ x)=r at he;generalize hvx:a.eval x=vx at hx;unfold TQ at he;split at he
  rename_i l hs;rw[hs]at hx;obtain⟨s',e1,rfl⟩:=nZ he E;rw[gu]at e1;cases hx with
  |tup q1 q2=>
   rename_i vs;have hlt:i<vs.size:=by grind
   have:=q2 i s' e1;simp only[al_,anc hlt,anZ]at this;exact⟨vs[i],by simp[execOp,hvx,Instr.extract,hlt],this⟩
  grind
 |makeSlice V n c=>
  obtain⟨ti,Y,he⟩:=b_ (k:=λti=>aJ ts ti.elem λte=>bif ti.isSlice then(bif te.isSlice then aJ ts te.elem λtr=>Hh nx te tr (val ⟨ts,ops,g,⟨t,h⟩,nx⟩ n) (val ⟨ts,ops,g,⟨t,h⟩,nx⟩ c)else mkS nx te (val ⟨ts,ops,g,⟨t,h⟩,nx⟩ n) (val ⟨ts,ops,g,⟨t,h⟩,nx⟩ c))else .bad) O he E;obtain⟨te,hte,he⟩:=b_ O he E;cases hs:ti.isSlice with
  |false=>grind
  |true=>
   rw[hs]at he;simp only[cond_true]at he;cases hs2:te.isSlice with
   |true=>
    rw[hs2]at he;obtain⟨tr,htr,he⟩:=b_ (k:=λtr=>Hh nx te tr (val ⟨ts,ops,g,⟨t,h⟩,nx⟩ n) (val ⟨ts,ops,g,⟨t,h⟩,nx⟩ c)) O he E;exact uD (Yb (P:=P) hp hn Y hte hs (X n) (X c) he E)
   |false=>
    rw[hs2]at he;exact uD (aa_ (P:=P) hp hn Y hte hs (X n) (X c) he E)
 |slice V x lo hi mx=>
  cases mx with
  |some m=>
   obtain⟨ti,Y,he⟩:=b_ (k:=λti=>aJ ts ti.elem λ_=>Ef ti (ov ⟨ts,ops,g,⟨t,h⟩,nx⟩ lo) (ov ⟨ts,ops,g,⟨t,h⟩,nx⟩ hi) (val ⟨ts,ops,g,⟨t,h⟩,nx⟩ m) (val ⟨ts,ops,g,⟨t,h⟩,nx⟩ x)) O he E;obtain⟨te,hte,he⟩:=b_ O he E;obtain⟨_,l2⟩:=Aa X lo;obtain⟨l3,_⟩:=Aa X hi;obtain⟨c,s',hc,h1⟩:=Uj (P:=P) Y hte (X x) (X m) l2 l3 he E;rcases hc with⟨rfl,hc⟩ |rfl;obtain⟨u,e1,e2⟩:=h1 hc;exact⟨u,by simp_all [execOp],e2⟩;intro hcc;obtain⟨u,e1,e2⟩:=h1 hcc;simp_all [execOp]
  |none=>
  obtain⟨ti,Y,he⟩:=b_ (k:=λti=>aJ ts ti.elem λte=>mH ti te.size nx h (ov ⟨ts,ops,g,⟨t,h⟩,nx⟩ lo) (ov ⟨ts,ops,g,⟨t,h⟩,nx⟩ hi) (Im hi&&LO ops) (val ⟨ts,ops,g,⟨t,h⟩,nx⟩ x)) O he E;obtain⟨te,hte,he⟩:=b_ O he E;obtain⟨l1,l2⟩:=Aa X lo;obtain⟨l3,l4⟩:=Aa X hi;rcases Sm (P:=P) hp hn Y hte (X x) l1 l2 l3 l4 (λq=>by cases hi with|none=>rfl|some _=>simp[Im]at q) he E with⟨c,s',rfl,hc⟩ |he;intro hcc;obtain⟨u,e1,e2⟩:=hc hcc;simp_all [execOp];exact uD he
 |makeMap V rs=>
  cases rs with
  |some _=>exact absurd he.symm E
  |none=>
  obtain⟨ti,Y,he⟩:=b_ (k:=λti=>mmR nx ti.mkt ti.mvt) O he E;unfold mmR at he;split at he
  rename_i kk vk hk hv';subst he;intro _;refine⟨trivial,.map (some w.heap.size),own.set nx ⟨none,.map (some w.heap.size),[],[w.heap.size]⟩,w.alloc (.map #[] 0),.inl (by rfl),?_,?_⟩;have:=Rel.os (F:=F) (own:=own.set nx ⟨none,.map (some w.heap.size),[],[w.heap.size]⟩) (w:=w.alloc (.map #[] 0)) (Own.apy _ _ _) rfl;exact this;exact uu hp hn (w1:=w) ⟨rfl,rfl,rfl,rfl⟩ _ _ _ rfl λbn g=>⟨w.heap.size,#[],0,rfl,rfl,kz _ _,⟨rfl,λi x hx=>by simp[eu]at hx⟩,⟨by simp[kA],λn hn=>by simp[kA]at hn⟩,trivial⟩;grind
 |lookup V m k ok=>
  obtain⟨ti,Y,he⟩:=b_ (k:=λti=>tI ti h ok (val ⟨ts,ops,g,⟨t,h⟩,nx⟩ k) (val ⟨ts,ops,g,⟨t,h⟩,nx⟩ m)) O he E;obtain⟨s',rfl,u,e1,e2⟩:=Ul (P:=P) hp Y (X m) (X k) he E;exact⟨u,by simp_all [execOp],e2⟩
 |mapUpdate V m k v=>
  obtain⟨ti,Y,he⟩:=b_ (k:=λti=>C4 ti h (val ⟨ts,ops,g,⟨t,h⟩,nx⟩ k) (val ⟨ts,ops,g,⟨t,h⟩,nx⟩ v) (val ⟨ts,ops,g,⟨t,h⟩,nx⟩ m)) O he E;obtain⟨ups,rfl,w',e1,e2⟩:=QE (P:=P) hp Y (X m) (X k) (X v) he E;exact λ_=>⟨trivial,undef,own,w',.inr ⟨by simp[execOp,e1],rfl⟩,.any _,e2⟩
 |insert V m k v=>
  obtain⟨ti,Y,he⟩:=b_ (k:=λti=>C4 ti h (val ⟨ts,ops,g,⟨t,h⟩,nx⟩ k) (val ⟨ts,ops,g,⟨t,h⟩,nx⟩ v) (val ⟨ts,ops,g,⟨t,h⟩,nx⟩ m)) O he E;obtain⟨ups,rfl,w',e1,e2⟩:=QE (P:=P) hp Y (X m) (X k) (X v) he E;exact λ_=>⟨trivial,undef,own,w',.inr ⟨by simp[execOp,e1],rfl⟩,.any _,e2⟩
 |mapEntry V m k=>
  obtain⟨ti,Y,he⟩:=b_ (k:=λti=>yf ti nx h (val ⟨ts,ops,g,⟨t,h⟩,nx⟩ k) (val ⟨ts,ops,g,⟨t,h⟩,nx⟩ m)) O he E;exact uD (X_ (P:=P) hp hn Y (X m) (X k) he E)
 |entryStore V m s v=>
  obtain⟨ti,Y,he⟩:=b_ (k:=λti=>JH ti h (val ⟨ts,ops,g,⟨t,h⟩,nx⟩ v) (val ⟨ts,ops,g,⟨t,h⟩,nx⟩ m) (val ⟨ts,ops,g,⟨t,h⟩,nx⟩ s)) O he E;obtain⟨c,ups,rfl,hc⟩:=Ya (P:=P) hp Y (X m) (X s) (X v) he E;intro hcc;obtain⟨w',e1,e2⟩:=hc hcc;exact⟨trivial,undef,own,w',.inr ⟨by simp[execOp,e1],rfl⟩,.any _,e2⟩
 |typeAssert x xt V ok=>
  obtain⟨ti,Y,he⟩:=b_ (k:=λti=>taS V ok ti (val ⟨ts,ops,g,⟨t,h⟩,nx⟩ x)) O he E;obtain⟨i,d,z,hi,hd,hz,hq,rfl⟩:=bV Y;have hx:=X x;unfold taS at he;split at he
  rename_i t' y hs;rw[hs]at hx;have ex:=cG hx;cases hif:(dG P V i d).iface with
  |true=>grind
  |false=>
   rw[hif]at he;simp only[cond_false]at he;cases hb:Nat.beq t' V with
   |false=>grind
   |true=>
    rw[hb]at he;simp only[cond_true]at he;have htt:=alH hb;have hrr:r=(bif ok then .val (.tup [.v y,.b true])else .val (.v y)):=he.symm;subst htt;have W:(Instr.typeAssert (.iface t' y) xt t' ok).run P w=.ok (if ok then .tuple #[y,.bool true]else y) w:=by
     cases d <;>simp[dG]at hif <;>cases ok <;>simp[Instr.typeAssert,run_underlying hd]
    rw[hrr];clear hrr;cases ok with
    |false=>exact⟨y,by simp_all [execOp],.v _⟩
    |true=>
     refine⟨.tuple #[y,.bool true],by simp_all [execOp],.tup rfl λj s hj=>?_⟩;cases j with
     |zero=>simp at hj;subst hj;exact .v _
     |succ j=>
      cases j with
      |zero=>simp at hj;subst hj;exact .v _|succ j=>simp at hj
  grind
 |call c=>
  obtain⟨callee,args,tys⟩:=c;cases callee with
  |value f=>
   have hf:=X f;change zO (dm _ args.toList) (val _ f)=r at he;generalize hvf:a.eval f=vf at hf;unfold zO at he;split at he
   rename_i fid first caps hs
   subst he;rw[hs]at hf;cases hf with
   |fn q1 q2 q3 q4=>
    rename_i us vs;obtain⟨p1,p2⟩:=uC X args;refine⟨us++args.map a.eval++vs,apx.app (apx.app ⟨q1,q3⟩ ⟨p1,p2⟩) ⟨q2,q4⟩,?_⟩;simp[execOp,resolve,hvf,Deferred.ofValue,invoke]
   rename_i id hs;subst he;rw[hs]at hf;obtain⟨hd,h1,rfl,h2⟩:=ij hf;exact⟨hd,h1,args.map a.eval,uC X args,by simp[execOp,resolve,hvf,Sq]⟩;grind
  |invoke f m=>exact absurd he.symm E
  |builtin b=>
   obtain⟨p1,p2⟩:=uC X args;have W:∀ (b:Builtin),(execOp a.eval { dst:=dst,op:=.call ⟨.builtin b,args,tys⟩,type:=ty,pos:=pos,after:=after,guard:=guard})=builtin b tys ty (args.map λ| .const _=>true|_=>false) (args.map a.eval):=λb=>rfl;cases b <;>first|(exact absurd he.symm E) |skip
   ·
    change (match tys.toList with| [t',t2] =>aJ ts t' λti=>aJ ts t2 λti2=>aJ ts ti.elem λte=>bif ti.isSlice&&ti2.isSlice then ml te nx h (dm _ args.toList)else .bad|_=>.bad)=r at he;split at he
    rename_i t' t2 htys;obtain⟨ti,Y,he⟩:=b_ O he E;obtain⟨ti2,ht2,he⟩:=b_ O he E;obtain⟨te,hte,he⟩:=b_ O he E;cases hs:ti.isSlice&&ti2.isSlice with
    |false=>grind
    |true=>
     rw[hs]at he;rw[alG]at hs;have htys':tys= #[t',t2]:=by grind
     have:=X7 (P:=P) (ty:=ty) hp hn Y ht2 hte hs.1 hs.2 ⟨p1,p2⟩ he E;grind [uD,builtin]
    grind
   ·
    change (match tys.toList with| [t'] =>aJ ts t' λti=>aJ ts ti.elem λte=>yZ ti te h (dm _ args.toList) |_=>.bad)=r at he;split at he
    rename_i t' htys;obtain⟨ti,Y,he⟩:=b_ O he E;obtain⟨te,hte,he⟩:=b_ O he E;have htys':tys= #[t']:=by grind
    have:=Yc (P:=P) hp Y hte ⟨p1,p2⟩ he E ty;grind [uD,builtin]
    grind
   ·
    change (match tys.toList with|t'::_=>aJ ts t' λti=>y3 ti h (dm _ args.toList) |_=>.bad)=r at he;split at he
    rename_i t' rest htys;obtain⟨ti,Y,he⟩:=b_ O he E;have hty0:tys[0]? =some t':=by rw[<-anu,htys];rfl
    obtain⟨ups,rfl,u,w',e1,e2⟩:=X9 (P:=P) hp Y ⟨p1,p2⟩ he E hty0 ty;intro _;refine⟨trivial,u,own,w',.inl ?_,.any _,e2⟩;simp_all [builtin];grind
   ·
    change (match tys.toList with| [t'] =>aJ ts t' λti=>ua ti h (dm _ args.toList) |_=>.bad)=r at he;split at he
    rename_i t' htys;obtain⟨ti,Y,he⟩:=b_ O he E;have htys':tys= #[t']:=by grind
    obtain⟨n,hn',hl⟩:=X8 (P:=P) (ty:=ty) hp Y ⟨p1,p2⟩ he E;have hfin:(execOp a.eval { dst:=dst,op:=.call ⟨.builtin .len,args,tys⟩,type:=ty,pos:=pos,after:=after,guard:=guard}).run P w=.ok (.value (.int .i64 n)) w:=by
     simp_all [builtin]
    rcases hn' with⟨c,rfl,hc⟩ |rfl;exact⟨hc,_,hfin,.v _⟩;exact⟨_,hfin,.v _⟩;grind
   change JG (dm _ args.toList)=r at he;unfold JG at he;split at he
   rename_i k x k' y hvl;subst he;rw[hvl]at p1 p2;have h0:=p2 0 _ rfl;have h1:=p2 1 _ rfl;generalize hgv:args.map a.eval=vs at *;obtain⟨l⟩:=vs;match l,p1 with
   | [u,v],_=>
    simp at h0 h1;have e0:=cG h0;have e1:=cG h1;subst e0;subst e1;exact⟨_,by simp_all [builtin,Builtin.max_,Builtin.max2],.v _⟩
   grind
   change JF (dm _ args.toList)=r at he;unfold JF at he;split at he
   rename_i k x k' y hvl;subst he;rw[hvl]at p1 p2;have h0:=p2 0 _ rfl;have h1:=p2 1 _ rfl;generalize hgv:args.map a.eval=vs at *;obtain⟨l⟩:=vs;match l,p1 with
   | [u,v],_=>
    simp at h0 h1;have e0:=cG h0;have e1:=cG h1;subst e0;subst e1;exact⟨_,by simp_all [builtin,Builtin.min_,Builtin.min2],.v _⟩
   grind
 |range V x=>
  obtain⟨ti,Y,he⟩:=b_ (k:=λti=>Eg ti nx h (val ⟨ts,ops,g,⟨t,h⟩,nx⟩ x)) O he E;have hvx:=X x;generalize val ⟨ts,ops,g,⟨t,h⟩,nx⟩ x=sx at he hvx;unfold Eg at he;split at he
  rename_i id;obtain⟨hdd,h1,hv1,h2⟩:=ij hvx;cases ho:ap h id with
  |mp kk vk l ap1=>
   rw[ho]at he;simp only[XW]at he;cases hc:lq kk ti.mkt&&lq vk ti.mvt&&noE ap1 with
   |false=>grind
   |true=>
     rw[hc]at he;simp only[cond_true]at he;simp only[alG]at hc;subst he;obtain⟨kt,e,q1,_⟩:=y_ Y (nE hc.1.1) (nE hc.1.2);obtain⟨hd',e0,bm,es,clk,m1,m2,m3,m4,m5,_⟩:=hp.at ho rfl;rw[h1]at e0;cases e0;rw[kc hc.2]at m4;have hes:es.size=l.length:=m4.1;have hidn:id≠nx:=λe=>by rw[e,hn.none]at h1;cases h1
     intro _;refine⟨trivial,.pointer (some ⟨w.heap.size,0,none⟩),own.set nx ⟨some w.heap.size,undef,stV (kA es) clk,[w.heap.size]⟩,w.alloc (.mapIter (some bm) clk #[] clk),.inl ?_,.ptr (Own.apy _ _ _) rfl,?_⟩;have:=run_range_map (P:=P) w V kt e bm es clk q1 m3;simp_all [execOp];have s1:=uu hp hn (w1:=w) ⟨rfl,rfl,rfl,rfl⟩ (.mapIter (some bm) clk #[] clk) (.mi (some id) l.length (List.range l.length) none) ⟨some w.heap.size,undef,stV (kA es) clk,[w.heap.size]⟩ rfl λbn g=>⟨w.heap.size,rfl,rfl,λi hi=>by
      cases hi;obtain⟨hd2,k1,k2⟩:=g.ids _ _ h1;have hbl:(kA es).length=l.length:=by simp[kA,hes]
      refine⟨hd2,bm,#[],clk,kA es,k1,k2.2.1.trans m1,kz _ _,rfl,hbl,List.nodup_range,λk=>?_,λj hj=>by cases hj⟩;grind⟩
     have go:(own.set nx ⟨some w.heap.size,undef,stV (kA es) clk,[w.heap.size]⟩) id=some hdd:=by grind [Own.apD]
     have s2:=Io s1.hp go (.mp kk vk l (some (nx,none))) ⟨bm,es,clk,m1,m2,by grind [qD],m4.carry s1.fr.apS.apM,m5,_,Own.apy _ _ _,rfl⟩;refine⟨s2.hp,s1.fr.trans s2.fr,λj hj hd=>?_⟩;have hd2:dx (ap (cm (cm h nx (.mi (some id) l.length (List.range l.length) none)) id (.mp kk vk l (some (nx,none)))) j)=true:=hd;rw[dy,dy]at hd2;by_cases e:j=nx
     subst e;rw[if_neg hidn,if_pos rfl]at hd2;cases hd2;grind [Own.apD]
  |_=>rw[ho]at he;exact absurd he.symm E
  grind
 |next it isS=>
  cases isS with
  |true=>exact absurd he.symm E
  |false=>
   have hvx:=X it;change TY (val ⟨ts,ops,g,⟨t,h⟩,nx⟩ it)=r at he;generalize val ⟨ts,ops,g,⟨t,h⟩,nx⟩ it=sx at he hvx;unfold TY at he;split at he
   rename_i id;subst he;have key:∀ v,Rel F own w (.ptr id 0) v->∃ hd b,own id=some hd/\hd.p=some b/\v=.pointer (some ⟨b,0,none⟩):=λv h=>by
    cases h <;>grind
   obtain⟨hd,b,e1,e2,hev⟩:=key _ hvx;refine⟨hd,b,e1,e2,ty,λu w' W=>?_⟩;simp_all [execOp];grind
 |entry it=>
  have hvx:=X it;change Cu h (val ⟨ts,ops,g,⟨t,h⟩,nx⟩ it)=r at he;generalize val ⟨ts,ops,g,⟨t,h⟩,nx⟩ it=sx at he hvx;unfold Cu at he;split at he
  ·rename_i id;cases ho:ap h id with
   |mi mid n left cur=>
    rw[ho]at he;unfold Qs at he;split at he
    ·rename_i mid' n' left' j hob;cases hob;cases hm:ap h mid' with
     |mp kk vk l ap1=>
      rw[hm]at he;cases ap1 with
      |none=>exact absurd he.symm E
      |some q=>
      obtain⟨it,q⟩:=q;cases q with
      |some _=>exact absurd he.symm E
      |none=>
      simp only[TZ]at he;cases hbi:Nat.beq it id with
      |false=>grind
      |true=>
       rw[hbi]at he;simp only[cond_true]at he;have hit:=alH hbi;subst he;rintro⟨hn0,hj⟩;have key:∀ v,Rel F own w (.ptr id 0) v->∃ hd b,own id=some hd/\hd.p=some b/\v=.pointer (some ⟨b,0,none⟩):=λv h=>by
        cases h <;>grind
       obtain⟨hd,b,e1,e2,hev⟩:=key _ hvx;obtain⟨hd',e1',b',p1,p2,p3⟩:=hp.at ho rfl;rw[e1]at e1';cases e1';rw[e2]at p1;cases p1;obtain⟨hdm,bm,seen,c0,ss,k1,k2,k3,k4,k5,k6,k7,k8⟩:=p3 _ rfl;obtain⟨s8,hs8,hs⟩:=k8 j rfl;obtain⟨hdm',k1',bm',es,clk,m1,m2,m3,m4,m5,hd2,t1,t2⟩:=hp.at hm rfl;rw[k1]at k1';cases k1';rw[k2]at m1;cases m1;rw[hit,e1]at t1;cases t1;obtain⟨hc0,hss⟩:=Qy (k4.symm.trans t2);subst hc0;subst hss;have hlt:j<l.length:=by omega
       obtain⟨en,f1,f2,f3,f4⟩:=m4.2 j l[j] (by simp[eu,hlt]);have hen:s8=en.born:=by
        grind [kA]
       subst hen;have hseen:seen=seen.pop.push en.born:=by
        obtain⟨xs,rfl⟩:=Array.back?_eq_some_iff.1 hs;simp
       have W:=Hm (P:=P) (w:=w) (b:=b) (bm:=bm) (since:=c0) (clock:=c0) (seen:=seen.pop) (es:=es) (e:=en) (by grind) m3 (by grind) m5.1;refine⟨.tuple #[en.key,en.val],by simp[execOp,hev,W],.tup rfl λk s hk=>?_⟩;have hgd:l.getD j (et kk,et vk)=l[j]:=by grind
       rw[hgd]at hk;match k,hk with
       |0,hk=>cases hk;exact f3|1,hk=>cases hk;exact f4
     |_=>rw[hm]at he;exact absurd he.symm E
    grind
   |_=>rw[ho]at he;exact absurd he.symm E
  grind
 |_=>exact absurd he.symm E
end
def Dfr (F:Nat->Prop)(B:Bs)(w:World)(ds:List Deferred):Prop:=
 ∃ (ms:List Deferred) (Ds:List Nat),ds=ms++B.ds/\ms.map (·.target)=Ds.map .collected/\Ds.Nodup/\∀ D∈Ds,B.w.heap.size<=D/\F D/\w.heap[D]? =some (.deferred (some []))
variable {F:Nat->Prop}{B:Bs}{w:World}
theorem Dfr.fr{own bn:Own}{w':World}{ds:List Deferred}(h:Dfr F B w ds)(g:Fr { w:=w,own:=own} bn w')(E:∀ (id:Nat) (hd:Hd) (b:Nat),own id=some hd->b∈hd.bs->¬F b):Dfr F B w' ds:=by
 obtain⟨Y,Ds,h0,h1,h2,h3⟩:=h;refine⟨Y,Ds,h0,h1,h2,λD X=>?_⟩;obtain⟨W,O,U⟩:=h3 D X;exact⟨W,O,by rw[g.block D ⟨rL U,λ⟨id,hd,e,V⟩ =>E id hd D e V O⟩];exact U⟩
theorem Dfr.nil:Dfr F B w B.ds:=⟨[],[],rfl,rfl,amV,λD h=>by cases h⟩
def mS (ops:List Oper)(j:Nat):Prop:= ∃ (i:Nat) (o:Oper) (b:Bool),ops[i]? =some o/\o.guard=some (j,b)
def aqJ (F:Nat->Prop)(ops:List Oper)(E:Nat->Prop)(own:Own)(a:Act)(w:World):SV->Value->Prop
 | .gd j b s,v=>E j/\mS ops j/\(yielded ops.toArray a.tmps j=some b->Rel F own w s v)|s,v=>Rel F own w s v
def GOk (ops:List Oper)(a:Act):Option (Nat×Bool)->Prop
 |none=>True|some g=>yielded ops.toArray a.tmps g.1=some g.2
section
variable {P:Program}{F:Nat->Prop}{own:Own}{w:World}{ts:Tis}
variable {ops:List Oper}{E:Nat->Prop}{a:Act}{v:Value}
theorem wQ{s:SV}(h:Rel F own w s v):aqJ F ops E own a w s v:=by
 cases s <;>first|exact h|cases h
variable {bn:Own}{w':World}
theorem aqJ.mono{U:Nat->Prop}{O:Act}{s:SV}(h:aqJ F ops E own a w s v)(V:∀ j,E j->U j)(g:apK F own w bn w')
  (hy:∀ j b,E j->mS ops j->yielded ops.toArray O.tmps j=some b->yielded ops.toArray a.tmps j=some b):aqJ F ops U bn O w' s v:=by
 cases s with
 |gd j b s=>exact⟨V j h.1,h.2.1,λq=>(h.2.2 (hy j b h.1 h.2.1 q)).mono g⟩
 |_=>exact Rel.mono g h
theorem lG (ops:List Oper)(tmps:Array Value)(j:Nat)(b:Bool):yielded ops.toArray tmps j=some b↔∃ o d,ops[j]? =some o/\o.dst=some d/\tmps[d]? =some (.bool b):=by
 grind [yielded,Option.bind_eq_some_iff]
structure ROk (N:Nat)(ops:List Oper):Prop where
 dst:∀ (i:Nat) (o:Oper) (d:Nat),ops[i]? =some o->o.dst=some d->d<N
 lt:∀ (i:Nat) (o:Oper) (j:Nat) (b:Bool),ops[i]? =some o->o.guard=some (j,b)->j<i
 uniq:∀ (j:Nat),mS ops j->∃ (o:Oper) (d:Nat),ops[j]? =some o/\o.dst=some d/\∀ (k:Nat) (q:Oper),k≠j->ops[k]? =some q->q.dst≠some d
variable {N:Nat}
theorem Uo(h:T_ N ops=true):ROk N ops:=by
 have h':∀ (i:Nat) (o:Oper),ops[i]? =some o->((match o.dst with|some d=>Nat.blt d N|none=>true)&&DH ops i o)=true:=by
  intro i o E;unfold T_ at h;rw[amc]at h;have:=h i (am_.2 (alM.1 E).1);grind [gu]
 refine⟨λi o d E hd=>?_,λi o j b E U=>?_,λj ⟨i,o,b,E,U⟩ =>?_⟩;have:=h' i o E;simp_all;have:=h' i o E;simp_all [DH];have:=h' i o E;simp only[DH,U,alG]at this;obtain⟨_,_,O⟩:=this;rw[gu]at O;cases V:ops[j]? with
 |none=>grind
 |some q=>
  cases hd:q.dst with
  |none=>grind
  |some d=>
   rw[V]at O;simp only[ann,hd,amc,am_,ama]at O;refine⟨q,d,rfl,hd,λk p Y W X=>?_⟩;have:=O k (alM.1 W).1;simp_all [gu]
theorem EI {E:Nat->Prop}{ops:List Oper}{a:Act}(U:∀ (k:Nat) (o:Oper) (j:Nat) (b:Bool),E k->ops[k]? =some o->o.guard=some (j,b)->E j)(W:∀ (k:Nat) (o:Oper) (b:Bool),E k->mS ops k->ops[k]? =some o->yielded ops.toArray a.tmps k=some b->GOk ops a o.guard):
  ∀ (n:Nat) (g:Option (Nat×Bool)) (j:Nat) (b:Bool),(∀ k c,g=some (k,c)->E k/\mS ops k)->
  rJ ops n g j b=true->GOk ops a g->yielded ops.toArray a.tmps j=some b
 |0,_,_,_,_,h,_=>by simp[rJ]at h
 |n+1,none,_,_,_,h,_=>by simp[rJ]at h
 |n+1,some (j',b'),j,b,hm,h,hk=>by
  simp only[rJ]at h;cases hc:Nat.beq j' j&&C2 b' b with
  |true=>
   simp only[alG]at hc;have e1:=alH hc.1;have Y:b'=b:=by cases b' <;>cases b <;>simp[C2]at hc |-
   subst e1;subst Y;exact hk
  |false=>
   simp only[hc,cond_false]at h;have O:yielded ops.toArray a.tmps j'=some b':=hk;obtain⟨o,d,h1,h2,h3⟩:=(lG _ _ _ _).1 O;obtain⟨X,q2⟩:=hm j' b' rfl;rw[gu,h1]at h;refine EI U W n o.guard j b (λk c V=>?_) h (W j' o b' X q2 h1 O);exact⟨U j' o k c X h1 V,j',o,c,h1,V⟩
structure apC (F:Nat->Prop)(w0:Bs)(N:Nat)(ops:List Oper)(E:Nat->Prop)(own:Own)(st:St)(a:Act)(w:World):Prop where
 size:a.tmps.size=N
 defers:Dfr F w0 w a.defers
 hp:Hp F own w st.h
 fr:Fr w0 own w
 slots:∀ t,aqJ F ops E own a w (lk t st.t) (a.tmps.getD t undef)
 tags:∀ (k:Nat) (o:Oper) (d j:Nat) (b:Bool) (s:SV),E k->mS ops k->ops[k]? =some o->o.dst=some d->lk d st.t=.gd j b s->o.guard=some (j,b)
 closed:∀ (k:Nat) (o:Oper) (j:Nat) (b:Bool),E k->ops[k]? =some o->o.guard=some (j,b)->E j
 chain:∀ (k:Nat) (o:Oper) (b:Bool),E k->mS ops k->ops[k]? =some o->yielded ops.toArray a.tmps k=some b->GOk ops a o.guard
variable {w0:Bs}{st:St}{g:Option (Nat×Bool)}
theorem J2{nx:Nat}(hi:apC F w0 N ops E own st a w)(V:GOk ops a g)(O:∀ k c,g=some (k,c)->E k/\mS ops k)(x:Operand):
  Rel F own w (val ⟨ts,ops,g,st,nx⟩ x) (a.eval x):=by
 cases x with
 |tmp t=>
  have h:=hi.slots t;show Rel F own w (bH ops g (lk t st.t)) (a.tmps.getD t undef);cases U:lk t st.t with
  |gd j b s=>
   rw[U]at h;show Rel F own w (bif rJ ops ops.length g j b then s else .any) _;cases W:rJ ops ops.length g j b with
   |true=>exact h.2.2 (EI hi.closed hi.chain _ g j b O W V)|false=>exact .any _
  |_=>rw[U]at h;exact h
 |const v=>exact .v v
 |func f=>exact .fn rfl rfl (λj s h=>by simp at h) (λj s h=>by simp at h)
 |global g=>exact .any _
theorem xK(hi:apC F w0 N ops E own st a w)(hg:GOk ops a g)(W:∀ k c,g=some (k,c)->E k/\mS ops k)(c x:Operand)(O:Bool)
  (hc:a.eval c=.bool O):Rel F own w (ky ops g c O (raw st.t x)) (a.eval x):=by
 have V:=J2 (ts:=λ_=>none) (nx:=0) hi hg W x;change Rel F own w (bH ops g (raw st.t x)) (a.eval x)at V;cases U:raw st.t x with
 |gd j b s=>
  rw[U]at V;show Rel F own w (bif C2 b O&&LL ops j c then s else bH ops g (.gd j b s)) _;cases Y:C2 b O&&LL ops j c with
  |false=>exact V
  |true=>
   simp only[alG]at Y;have e2:b=O:=by cases b <;>cases O <;>simp[C2]at Y |-
   subst e2;cases x with
   |tmp t=>
    have h:=hi.slots t;have X:lk t st.t=.gd j b s:=U;rw[X]at h;refine h.2.2 ((lG _ _ _ _).2 ?_);have hd:=Y.2;unfold LL at hd;rw[gu]at hd;split at hd
    rename_i d tc hb;simp only[aoo]at hb;obtain⟨o,h1,h2⟩:=hb;have e:=alH hd;subst e;refine⟨o,d,h1,h2,?_⟩;have:a.tmps.getD d undef=.bool b:=hc;simp only[al_]at this;grind [undef]
    cases hd
   |const v=>simp[raw]at U|func f=>simp[raw]at U|global q=>simp[raw]at U
 |_=>rw[U]at V;exact V
theorem px (t:List (Nat×SV))(d:Nat)(s:SV)(n:Nat):lk n ((d,s)::t)=if d=n then s else lk n t:=by
 simp_all [lk]
theorem Yd (a:Act)(d:Nat)(v:Value)(hd:d<a.tmps.size)(n:Nat):(a.put (some d) v).tmps.getD n undef=if d=n then v else a.tmps.getD n undef:=by
 simp only[Act.put,al_,an3];grind
theorem Ix{dst:Option Nat}{j:Nat}{q:Oper}{E:Nat}(U:ops[j]? =some q)(hd:q.dst=some E)(O:dst≠some E)(b:Bool):
  yielded ops.toArray (a.put dst v).tmps j=some b↔yielded ops.toArray a.tmps j=some b:=by
 rw[lG,lG];have:(a.put dst v).tmps[E]? =a.tmps[E]?:=by
  cases dst with
  |none=>rfl
  |some d=>
   simp_all [Act.put]
 grind
theorem apC.step{n:Nat}{E':Nat->Prop}(hr:ROk N ops)(hE:∀ k,E' k↔E k\/k=n)(hnE:¬E n)(hi:apC F w0 N ops E own st a w){o:Oper}(ho:ops[n]? =some o){h':List Ob}{s:SV}
  (Y:Fr { w:=w,own:=own} bn w') (hp:Hp F bn w' h')
  (hgE:∀ j b,o.guard=some (j,b)->E j) (hs:aqJ F ops E' bn (a.put o.dst v) w' s v) (hch:∀ b:Bool,v=.bool b->GOk ops a o.guard) (aqr:∀ j b s',s=.gd j b s'->o.guard=some (j,b)):
  apC F w0 N ops E' bn (St.put ⟨st.t,h'⟩ o.dst s) (a.put o.dst v) w':=by
 have g:apK F own w bn w':=Y.apS;have hfr:=hi.fr.trans Y;have hyk:∀ j b,E j->mS ops j->(yielded ops.toArray (a.put o.dst v).tmps j=some b↔yielded ops.toArray a.tmps j=some b):=by
  intro j b hj O;obtain⟨q,dj,h1,h2,h3⟩:=hr.uniq j O;grind [Ix]
 have hcl:∀ (k:Nat) (q:Oper) (j:Nat) (b:Bool),E' k->ops[k]? =some q->q.guard=some (j,b)->E j:=by
  intro k q j b W V U;rcases(hE k).1 W with W|rfl;exact hi.closed k q j b W V U;grind
 have hgk:∀ (k:Nat) (q:Oper),E' k->ops[k]? =some q->GOk ops a q.guard->GOk ops (a.put o.dst v) q.guard:=by
  intro k q W V hgo;cases U:q.guard with
  |none=>trivial
  |some g=>
   rw[U]at hgo;exact(hyk g.1 g.2 (hcl k q g.1 g.2 W V U) ⟨k,q,g.2,V,U⟩).2 hgo
 refine⟨?_,?_,?_,hfr,?_,?_,λk q j b W V U=>(hE j).2 (.inl (hcl k q j b W V U)),?_⟩;cases hd:o.dst <;>simp[Act.put,hi.size];have:(a.put o.dst v).defers=a.defers:=by cases hd:o.dst <;>rfl
 rw[this];exact hi.defers.fr Y hi.hp.apart;cases hd:o.dst <;>exact hp;intro t;have X:aqJ F ops E' bn (a.put o.dst v) w' (lk t st.t) (a.tmps.getD t undef):=
  (hi.slots t).mono (λj hj=>(hE j).2 (.inl hj)) g (λj b hj O=>(hyk j b hj O).1)
 cases hd:o.dst with
 |none=>
  rw[hd]at X;exact X
 |some d=>
  rw[hd]at X hs;show aqJ F ops E' bn _ w' (lk t ((d,s)::st.t)) _;rw[px,Yd _ _ _ (by rw[hi.size];exact hr.dst n o d ho hd)];grind
 intro k q d j b s' W O V hqd hl;rcases(hE k).1 W with hkn|hkn;obtain⟨q',d',h1,h2,h3⟩:=hr.uniq k O;rw[V]at h1;cases h1;rw[hqd]at h2;cases h2;have hne:=h3 n o (λe=>hnE (e▸hkn)) ho;refine hi.tags k q d j b s' hkn O V hqd ?_;cases hd:o.dst with
 |none=>rw[hd]at hl;exact hl
 |some d2=>
  rw[hd]at hl;change lk d ((d2,s)::st.t)=_ at hl;simp_all [px]
 subst hkn;rw[ho]at V;cases V;rw[hqd]at hl;change lk d ((d,s)::st.t)=_ at hl;rw[px,if_pos rfl]at hl;grind
 intro k q b W O V hy;rcases(hE k).1 W with hkn|hkn;exact hgk k q W V (hi.chain k q b hkn O V ((hyk k b hkn O).1 hy));grind [lG,Act.put]
theorem uE {w0:Bs}{N:Nat}{E:Nat->Prop}{ops:List Oper}{st:St}{a:Act}(hi:apC F w0 N ops E own st a w){t:List (Nat×SV)}(n:Nat)
  (ht:∀ (j:Nat) (o:Oper) (d:Nat),j<n->E j->mS ops j->ops[j]? =some o->o.dst=some d->lk d t=lk d st.t) (hlt:∀ (i:Nat) (o:Oper) (j:Nat) (b:Bool),ops[i]? =some o->o.guard=some (j,b)->j<i):
  ∀ (m:Nat) (g:Nat×Bool),g.1<n->E g.1->mS ops g.1->GOk ops a (some g)->dO ops t m g
 |0,_,_,_,_,_=>trivial
 |m+1,(j,want),hjn,hj,hrf,hg=>by
  have W:yielded ops.toArray a.tmps j=some want:=hg;obtain⟨o,d,h1,h2,h3⟩:=(lG _ _ _ _).1 W;have U:=hi.slots d;have hv:a.tmps.getD d undef=.bool want:=by simp_all
  rw[hv]at U;simp only[dO,gu,h1,ann,h2,ht j o d hjn hj hrf h1 h2];split
  rename_i x X;rw[X]at U;have:=cG (F:=F) (own:=own) (w:=w) U;grind
  rename_i Y b x X;rw[X]at U;obtain⟨q1,q2,q3⟩:=U;have V:=hi.tags j o d Y b _ hj hrf h1 h2 X;have O:=hi.chain j o want hj hrf h1 W;rw[V]at O;have:=cG (q3 O);simp at this;exact⟨uE hi n ht hlt m (Y,b) (Nat.lt_trans (hlt j o Y b h1 V) hjn) q1 q2 O,this.symm⟩;trivial
theorem EJ {w0:Bs}{N:Nat}{E:Nat->Prop}{ops:List Oper}{st:St}{a:Act}(hi:apC F w0 N ops E own st a w){t:List (Nat×SV)}(n:Nat)
  (ht:∀ (j:Nat) (o:Oper) (d:Nat),j<n->E j->mS ops j->ops[j]? =some o->o.dst=some d->lk d t=lk d st.t) (hlt:∀ (i:Nat) (o:Oper) (j:Nat) (b:Bool),ops[i]? =some o->o.guard=some (j,b)->j<i):
  ∀ (m:Nat) (g:Nat×Bool),g.1<n->E g.1->mS ops g.1->¬GOk ops a (some g)->gi ops t m g
 |0,_,_,_,_,_=>trivial
 |m+1,(j,want),hjn,hj,hrf,hg=>by
  have hg':¬yielded ops.toArray a.tmps j=some want:=hg;simp only[gi,gu];cases X:ops[j]? with
  |none=>simp
  |some o=>
   cases hd:o.dst with
   |none=>simp[hd]
   |some d=>
    simp only[ann,hd,ht j o d hjn hj hrf X hd];have V:=hi.slots d;have hy:∀ x,a.tmps.getD d undef=.bool x->yielded ops.toArray a.tmps j=some x:=λx O=>by
     refine(lG _ _ _ _).2 ⟨o,d,X,hd,?_⟩;simp only[al_]at O;grind [undef]
    split
    rename_i x O;rw[O]at V;have:=cG (F:=F) (own:=own) (w:=w) V;grind
    rename_i W b x O;rw[O]at V;obtain⟨q1,q2,q3⟩:=V;have Y:=hi.tags j o d W b _ hj hrf X hd O;by_cases U:GOk ops a (some (W,b))
    right;have:=cG (q3 U);grind
    left;exact EJ hi n ht hlt m (W,b) (Nat.lt_trans (hlt j o W b X Y) hjn) q1 q2 U;trivial
theorem Bm {w0:Bs}{N:Nat}{E:Nat->Prop}{ops:List Oper}{st:St}{a:Act}(hi:apC F w0 N ops E own st a w):
  ∀ (m:Nat) (g:Nat×Bool),E g.1->mS ops g.1->¬GOk ops a (some g)->gi ops st.t m g
 |0,_,_,_,_=>trivial
 |m+1,(j,want),hj,hrf,hg=>by
  have Y:¬yielded ops.toArray a.tmps j=some want:=hg;simp only[gi,gu];cases ho:ops[j]? with
  |none=>simp
  |some o=>
   cases hd:o.dst with
   |none=>simp[hd]
   |some d=>
    simp only[ann,hd];have V:=hi.slots d;have hy:∀ x,a.tmps.getD d undef=.bool x->yielded ops.toArray a.tmps j=some x:=λx O=>by
     refine(lG _ _ _ _).2 ⟨o,d,ho,hd,?_⟩;simp only[al_]at O;grind [undef]
    split
    rename_i x O;rw[O]at V;have:=cG (F:=F) (own:=own) (w:=w) V;grind
    rename_i W b x O;rw[O]at V;obtain⟨X,q2,q3⟩:=V;by_cases U:GOk ops a (some (W,b))
    right;have:=cG (q3 U);grind
    left;exact Bm hi m (W,b) X q2 U;trivial
variable {w0:Bs}{N:Nat}
structure W2 (F:Nat->Prop)(w0:Bs)(N:Nat)(own:Own)(st:St)(a:Act)(w:World):Prop where
 size:a.tmps.size=N
 defers:Dfr F w0 w a.defers
 hp:Hp F own w st.h
 fr:Fr w0 own w
 slots:∀ t,Rel F own w (lk t st.t) (a.tmps.getD t undef)
variable {st:St}{a:Act}{E:Nat->Prop}
theorem W2.start{own:Own}{w:World}(h:W2 F w0 N own st a w)(ops:List Oper)(U:∀ k,¬E k):apC F w0 N ops E own st a w:=
 ⟨h.size,h.defers,h.hp,h.fr,λt=>wQ (h.slots t),λk _ _ _ _ _ O=>(U k O).elim,λk _ _ _ O=>(U k O).elim,λk _ _ O=>(U k O).elim⟩
theorem J3 (t:Nat):∀ l:List (Nat×SV),lk t (apW l)=match lk t l with| .gd .. =>.any|s=>s
 | [] =>rfl
 |(d,s)::r=>by
  have E:=J3 t r;cases s <;>simp only[apW,lk] <;>(cases Nat.beq d t <;>simp only[cond_true,cond_false] <;>first|exact E|rfl)
theorem QG (h:List Ob)(t:Nat):∀ l:List (Nat×SV),lk t (Ot h l)=T7 h (lk t l)
 | [] =>rfl
 |(d,s)::r=>by
  have E:=QG h t r;simp only[Ot,lk];grind
def Mf:∀ (h:List Ob) (id:Nat),ap (yD h) id=aa5 (ap h id)
 | [],_=>rfl|o::_,0=>rfl|_::r,n+1=>Mf r n
theorem Iy:∀ h:List Ob,(yD h).length=h.length
 | [] =>rfl
 |_::r=>by simp only[yD,alL,Iy r]
theorem Uq {own:Own}{w:World}{h:List Ob}(X:Hp F own w h){s:SV}{v:Value}(E:Rel F own w s v):Rel F own w (T7 h s) v:=by
 cases s with
 |os id=>
  simp only[T7];cases W:ap h id with
  |fwd n=>
   cases n with
   |none=>exact E
   |some n=>
    simp only[aa4];cases E with
    |os h1 h2=>
     obtain⟨hd',O,e⟩:=X.at W rfl;rw[h1]at O;cases O;obtain⟨V,U,k2,Y⟩:=e n rfl;rw[<-k2]at h2 |-;exact .os U h2
  |_=>exact E
 |_=>exact E
theorem W2.aqq{own:Own}{w:World}(h:W2 F w0 N own st a w):W2 F w0 N own (Sx.aqq st) a w:=by
 unfold Sx.aqq;cases nP st.h with
 |false=>exact h
 |true=>
  refine⟨h.size,h.defers,⟨λid hd e=>?_,h.hp.ao1,h.hp.apart,h.hp.inj,h.hp.lt,λid hd=>?_⟩,h.fr,λt=>?_⟩;show id< (yD st.h).length;rw[Iy];exact h.hp.dom id hd e;change dx (ap (yD st.h) id)=false at hd;change ∃ hd,own id=some hd/\apF F own w hd (ap (yD st.h) id);rw[Mf]at hd |-;cases E:ap st.h id with
  |fwd n=>rw[E]at hd;cases hd|dead=>rw[E]at hd;cases hd|_=>exact h.hp.at E rfl
  show Rel F own w (lk t (Ot st.h st.t)) _;rw[QG];exact Uq h.hp (h.slots t)
variable {ops:List Oper}
theorem W2.finish{own:Own}{w:World}(h:apC F w0 N ops E own st a w):W2 F w0 N own (wJ ops st) a w:=by
 unfold wJ;refine W2.aqq ?_;cases W:ops.any (·.guard.isSome)with
 |true=>
  refine⟨h.size,h.defers,h.hp,h.fr,λt=>?_⟩;have O:=h.slots t;show Rel F own w (lk t (apW st.t)) _;rw[J3];cases U:lk t st.t with
  |gd j b s=>exact .any _|_=>rw[U]at O;exact O
 |false=>
  refine⟨h.size,h.defers,h.hp,h.fr,λt=>?_⟩;have O:=h.slots t;show Rel F own w (lk t st.t) _;cases U:lk t st.t with
  |gd j b s=>
   rw[U]at O;obtain⟨_,⟨i,o,V,h1,h2⟩,_⟩:=O;grind
  |_=>rw[U]at O;exact O
theorem W2.apW{own:Own}{w:World}(h:apC F w0 N ops E own st a w):W2 F w0 N own ⟨Sx.apW st.t,st.h⟩ a w:=by
 refine⟨h.size,h.defers,h.hp,h.fr,λt=>?_⟩;have O:=h.slots t;show Rel F own w (lk t (Sx.apW st.t)) _;rw[J3];cases U:lk t st.t with
 |gd j b s=>exact .any _|_=>rw[U]at O;exact O
end
inductive PF:SV->Prop where
 |any:PF .any
 |v (x:Value):PF (.v x)
 |e0:PF .e0
 |rc {k:Tag} {l:List k.T}:PF (.rc k l)
 |rs {k:Tag} {l:List k.T}:PF (.rs k l)
 |rm {k k2:Tag} {l:List (k.T×k2.T)}:PF (.rm k k2 l)
 |ep {l:List SV} {off:Nat}:(∀ (j:Nat) (s:SV),l[j]? =some s->PF s)->PF (.ep l off)
 |ls {z:Nat} {l:List SV}:(∀ (j:Nat) (s:SV),l[j]? =some s->PF s)->PF (.ls z l)
 |agg {l:List SV}:(∀ (j:Nat) (s:SV),l[j]? =some s->PF s)->PF (.agg l)
 |tup {l:List SV}:(∀ (j:Nat) (s:SV),l[j]? =some s->PF s)->PF (.tup l)
 |fn {f:FuncId} {l m:List SV}:(∀ (j:Nat) (s:SV),l[j]? =some s->PF s)->(∀ (j:Nat) (s:SV),m[j]? =some s->PF s)->PF (.fn f l m)
theorem qI {k:Tag}{x:k.T}{j:Nat}{s:SV}(h:(cellsOf k x)[j]? =some s):PF s:=by
 rcases wL h with⟨y,rfl,_⟩ | ⟨k',l',rfl,_⟩ | ⟨k',k2,l',rfl,_⟩ | ⟨f,rfl,_⟩;exact .v y;exact .rs;exact .rm;exact .fn (λj s E=>by simp at E) (λj s E=>by simp at E)
theorem ub (k:Tag)(x:k.T):PF (svT k x):=by
 unfold svT;cases ot k with
 |true=>exact .agg λj s E=>qI E
 |false=>
  simp only[cond_false,gu];cases h:(cellsOf k x)[0]? with
  |none=>exact .any|some s=>exact qI h
theorem gb:∀ (n:Nat) (s:SV),c8 n s=true->PF s
 |n,.v x,_=>.v x|n,.rs k l,_=>.rs|n,.rm _ _ _,_=>.rm|n,.e0,_=>.e0|n,.rc k l,_=>.rc|n,.any,_=>.any
 |n+1,.ep l _,h=>.ep λj s E=>gb n s (by grind [c8])
 |n+1,.ls _ l,h=>.ls λj s E=>gb n s (by grind [c8])
 |n+1,.agg l,h=>.agg λj s E=>gb n s (by grind [c8])
 |n+1,.tup l,h=>.tup λj s E=>gb n s (by grind [c8])
 |n+1,.fn _ l m,h=>.fn (λj s E=>gb n s (by simp only[c8,alG,amc]at h;grind)) (λj s E=>gb n s (by simp only[c8,alG,amc]at h;grind))
 |0,.ep _ _,h|0,.ls _ _,h|0,.agg _,h|0,.tup _,h|0,.fn _ _ _,h=>by simp[c8]at h
 |0,.ptr _ _,h|0,.os _,h|0,.rp _ _ _ _,h|0,.gr _ _,h|0,.gp _ _ _ _ _,h|0,.nw _ _,h|0,.nm _ _ _,h|0,.ng _ _,h|0,.gd _ _ _,h|0,.vw _ _ _ _,h=>by simp[c8]at h
 |_+1,.ptr _ _,h|_+1,.os _,h|_+1,.rp _ _ _ _,h|_+1,.gr _ _,h|_+1,.gp _ _ _ _ _,h|_+1,.nw _ _,h|_+1,.nm _ _ _,h|_+1,.ng _ _,h|_+1,.gd _ _ _,h|_+1,.vw _ _ _ _,h=>by simp[c8]at h
section
variable {P:Program}{F F':Nat->Prop}{own bn:Own}{w w':World}{ts:Tis}
variable {v:Value}
theorem Rel.aph{s:SV}(hr:Rel F own w s v)(U:PF s)(ho:∀ b,¬cH F own b->¬cH F' bn b):Rel F' bn w s v:=by
 induction hr with
 |any v=>exact .any v|v x=>exact .v x|ptr h1 h2=>cases U|os h1 h2=>cases U|e0=>exact .e0|rc _ O=>exact .rc (O .rs)|rp h1 h2 h3=>cases U|gr h1 h2 h3=>cases U|gp h1 h2 h3=>cases U|vw h1 h2 h3=>cases U
 |ep c h1 _ O=>cases U with|ep W=>exact .ep c (λj s E=>⟨ho _ (h1 j s E).1,(h1 j s E).2⟩) λj s E=>O j s E (W j s E)
 |rs c V Y h1 _ O=>exact .rs c V Y (λi x hi j s E=>⟨ho _ (h1 i x hi j s E).1,(h1 i x hi j s E).2⟩) λi x hi j s E=>O i x hi j s E (qI E)
 |rs0=>exact .rs0
 |ls c hz V h1 _ O=>cases U with|ls W=>exact .ls c hz V (λj s E=>⟨ho _ (h1 j s E).1,(h1 j s E).2⟩) λj s E=>O j s E (W j s E)
 |rm ck cv es clock V h1 h2 h3 _ _ ih1 X=>exact .rm ck cv es clock (ho _ V) h1 h2 h3 (λi x hi=>ih1 i x hi (ub _ _)) (λi x hi=>X i x hi (ub _ _))
 |rm0=>exact .rm0
 |agg V _ O=>cases U with|agg W=>exact .agg V λj s E=>O j s E (W j s E)
 |tup V _ O=>cases U with|tup W=>exact .tup V λj s E=>O j s E (W j s E)
 |fn V Y _ _ ih1 X=>cases U with|fn W hq'=>exact .fn V Y (λj s E=>ih1 j s E (W j s E)) λj s E=>X j s E (hq' j s E)
theorem py{s:SV}(h:Rel F dv w s v):PF s:=by
 generalize U:dv=o at h;induction h with
 |any v=>exact .any|v x=>exact .v x|ptr h1 h2=>subst U;cases h1|os h1 h2=>subst U;cases h1|e0=>exact .e0|rc _ _=>exact .rc|rp h1 h2 Y=>subst U;cases h1|gr h1 h2 Y=>subst U;cases h1|gp h1 h2 Y=>subst U;cases h1|vw h1 h2 Y=>subst U;cases h1
 |ep c h1 _ O=>exact .ep λj s E=>O j s E
 |rs c X h0' h1 _ O=>exact .rs|rs0=>exact .rs
 |ls c hz X h1 _ O=>exact .ls λj s E=>O j s E
 |rm ck cv es clock X h1 h2 Y _ _ W V=>exact .rm|rm0=>exact .rm
 |agg X _ O=>exact .agg λj s E=>O j s E
 |tup X _ O=>exact .tup λj s E=>O j s E
 |fn X h0' _ _ W V=>exact .fn (λj s E=>W j s E) λj s E=>V j s E
theorem k9 {α β:Type}{f:α->β}{l:List α}{j:Nat}{s:β}(h:(l.map f)[j]? =some s):∃ x,l[j]? =some x/\f x=s:=by
 simpa using h
theorem n8 {b:Nat}(h:¬F b):¬cH F dv b:=by
 rintro (E| ⟨id,hd,e,_⟩);exact h E;cases e
theorem J4 {b:Nat}(h:¬cH F own b):¬F b:=λE=>h (.inl E)
theorem OS(X:∀ b,F' b->F b){k:Tag}{l:List k.T}{bs:List Nat}(hr:apm F own w k l v bs)(U:∀ b∈bs,¬F b):Rel F' dv w (.rs k l) v:=by
 rcases hr with⟨a,rfl,rfl,_⟩ | ⟨b,o,cap,cs,ty,rfl,rfl,h3,h4,h5,h6,V⟩;exact .rs0;refine .rs (λi j=>cs.getD (o+i*aa k+j) undef) h5 h6 (λi x hi j s E=>?_) (λi x hi j s E=>?_);obtain⟨u,Y,W⟩:=V i x hi j s E;refine⟨n8 λO=>U b (by simp) (X _ O),?_⟩;rw[dY h3,Y];simp_all;obtain⟨u,Y,W⟩:=V i x hi j s E;have:cs.getD (o+i*aa k+j) undef=u:=by simp_all
 rw[this];exact W.aph (qI E) λb hb=>n8 λO=>hb (.inl (X _ O))
variable {h:List Ob}
theorem Ur(hp:Hp F own w h){id sz cap:Nat}{lo hi:Int}{hd:Hd}{a:Option Addr}(h1:own id=some hd)(h2:aa6 hd.v sz lo hi a)(h3:hi.toNat - lo.toNat<=cap):Rel F dv w (XY sz lo hi (ap h id)) (.slice a (hi.toNat - lo.toNat) cap):=by
 cases ho:ap h id with
 |row k l=>
  simp only[XY];cases hb:Nat.beq sz (aa k)with
  |false=>exact .any _
  |true=>
   simp only[cond_true];have hsz:=alH hb;subst hsz;obtain⟨hd',e0,e⟩:=hp.at ho rfl;rw[h1]at e0;cases e0;have aq4:hi.toNat<=lo.toNat->Rel F dv w (.rs k ((l.take hi.toNat).drop lo.toNat)) (.slice a (hi.toNat - lo.toNat) cap):=λhle=>by
    have U:(l.take hi.toNat).drop lo.toNat=[]:=aou (by grind);have e2:hi.toNat - lo.toNat=0:=by omega
    rw[U,e2];exact .rs0
   by_cases hle:hi.toNat<=lo.toNat
   grind
   rcases h2 with h2| ⟨Y,W,n',cap',q1,q2,rfl⟩;omega;rcases e with⟨a0,U,rfl,_⟩ | ⟨b,o,cap0,cs,ty,U,e2,e3,e4,e5,e6,e7⟩;grind
   rw[q1]at U;simp only[amF,alK,am6]at U;obtain⟨⟨rfl,rfl,_⟩,rfl,rfl⟩:=U;have V:((l.take hi.toNat).drop lo.toNat).length=hi.toNat - lo.toNat:=by grind
   have O:∀ i x,((l.take hi.toNat).drop lo.toNat)[i]? =some x->l[lo.toNat+i]? =some x:=λi x E=>by
    grind
   have hix:∀ i j,Y.succ=Y.succ->W+lo.toNat*aa k+i*aa k+j=W+(lo.toNat+i)*aa k+j:=λi j _=>by grind
   rw[<-V];refine .rs (λi j=>cs.getD (W+lo.toNat*aa k+i*aa k+j) undef) (by omega) (by omega) (λi x E j s X=>?_) (λi x E j s X=>?_);obtain⟨u,m1,m2⟩:=e7 _ x (O i x E) j s X;refine⟨n8 λhf=>hp.apart id hd Y h1 (by rw[e2];simp) hf,?_⟩;rw[dY e3,hix i j rfl,m1];simp_all;obtain⟨u,m1,m2⟩:=e7 _ x (O i x E) j s X;have:cs.getD (W+lo.toNat*aa k+i*aa k+j) undef=u:=by simp_all
   rw[this];exact m2.aph (qI X) λb hb=>n8 λhf=>hb (.inl hf)
 |_=>exact .any _
theorem Mg (k:Tag)(l:List (List k.T)):(∃ (k':Tag) (l':List k'.T),LA k l=.rs k' l'/\l'.length=l.length/\aa k'=1/\∀ (i:Nat) (x:k'.T),l'[i]? =some x->cellsOf k' x=[.rs k (l.getD i [])])\/LA k l=.any:=by
 cases k <;>first|exact .inr rfl|(left;exact⟨_,_,rfl,rfl,rfl,λi x E=>by simp[List.getD,E,cellsOf]⟩)
theorem Ye(U:Hp F own w h){id:Nat}(hr:Rel F own w (.os id) v):Rel F dv w (frz (ap h id)) v:=by
 obtain⟨hd,h1,rfl,h2⟩:=ij hr;cases ho:ap h id with
 |row k l=>
  obtain⟨hd',E,e⟩:=U.at ho rfl;rw[h1]at E;cases E;exact OS (λ_ h=>h) e λb V=>U.apart id hd b h1 V
 |fz k l=>
  obtain⟨hd',E,e⟩:=U.at ho rfl;rw[h1]at E;cases E;exact Rel.aph e .rs λb V=>n8 (J4 V)
 |mp kk vk l O=>
  show Rel F dv w (bif noE O then .rm kk vk l else .any) hd.v;cases hq:noE O with
  |false=>exact .any _
  |true=>
   obtain⟨hd',E,b,es,clk,m1,m2,m3,Y,_⟩:=U.at ho rfl;rw[kc hq]at Y;rw[h1]at E;cases E;rw[m1];have hnb:¬cH F dv b:=n8 (U.apart id hd b h1 (by simp[m2]));have hg:∀ i,es[i]? =some ⟨(es.getD i default).key,(es.getD i default).val,(es.getD i default).born⟩\/es.size<=i:=λi=>by
    rcases amN i es.size with hlt|hge <;>simp_all
   refine .rm (λi=>(es.getD i default).key) (λi=>(es.getD i default).val) es clk hnb m3 Y.1 (λi x hi=>?_) (λi x hi=>?_) (λi x hi=>?_);obtain⟨e,X,e2,e3,e4⟩:=Y.2 i x hi;grind
   obtain⟨e,X,e2,e3,e4⟩:=Y.2 i x hi;have:es.getD i default=e:=by simp_all
   rw[this];exact e3.aph (ub _ _) λb V=>n8 (J4 V);obtain⟨e,X,e2,e3,e4⟩:=Y.2 i x hi;have:es.getD i default=e:=by simp_all
   rw[this];exact e4.aph (ub _ _) λb V=>n8 (J4 V)
 |apw k l=>
  obtain⟨hd',E,e⟩:=U.at ho rfl;rw[h1]at E;cases E;show Rel F dv w (LA k l) hd.v;rcases Mg k l with⟨k',l',q1,q2,q3,q4⟩ |q;rw[q1];rcases e with⟨X,rfl,_⟩ | ⟨b,o,cap,cs,ty,bs,X,e2,e3,e4,e5,e6,e7,e8,e9⟩;have:l'=[]:=al1 (by omega);rw[this,X];exact .rs0;rw[X,<-q2];have hvl:=e9.len;refine .rs (λi j=>hd.vs.getD i undef) (by omega) (by omega) (λi x hi j s W=>?_) (λi x hi j s W=>?_);have hil:i<hd.vs.length:=by grind
  rw[q4 i x hi]at W;cases j with
  |succ j=>simp at W
  |zero=>
   refine⟨n8 (U.apart id hd b h1 (by simp[e2])),?_⟩;rw[q3,anD,amK,dY e4];grind
  have hil:i<hd.vs.length:=by grind
  rw[q4 i x hi]at W;cases j with
  |succ j=>simp at W
  |zero=>
   simp at W;subst W;obtain⟨b1,k1,k2,k3,k4⟩:=e9.get (sD (d:=undef) hil);exact OS (λ_ h=>h) k3 λc hc=>U.apart id hd c h1 (by grind)
  rw[q];exact .any _
 |_=>exact .any _
theorem apB.ep {k:Tag}{l:List k.T}{o b:Nat}{cs:Array Value}{ty:TypeId}(X:w.heap[b]? =some (.cells cs ty (0,0)))(O:apB F own w k l o cs)(U:¬F b){i:Nat}(hi:i<l.length)(off:Nat):Rel F dv w (.ep (cellsOf k (l.getD i (et k))) off) (.pointer (some ⟨b,o+i*aa k+off,none⟩)):=by
 refine .ep (λj=>cs.getD (o+i*aa k+j) undef) (λj s E=>?_) (λj s E=>?_);obtain⟨W,V⟩:=O.get hi E;grind [n8,dY]
 obtain⟨W,V⟩:=O.get hi E;exact V.aph (qI E) λb U=>n8 (J4 U)
theorem xL(X:Hp F own w h):∀ (n:Nat) (s:SV) (v:Value),Rel F own w s v->Rel F dv w (fD h n s) v:=by
 have pg:∀ (n:Nat) (s:SV) (v:Value),Rel F own w s v->(∀ l o,s≠ .ep l o)->(∀ z l,s≠ .ls z l)->(∀ l,s≠ .agg l)->(∀ l,s≠ .tup l)->(∀ f l m,s≠ .fn f l m)->(∀ i o,s≠ .ptr i o)->Rel F dv w (fD h n s) v:=by
  intro n s v O n1 n2 n3 n4 n5 n6;cases O with
  |any=>cases n <;>exact .any _|v x=>cases n <;>exact .v _|ptr=>grind|os h1 h2=>cases n <;>exact Ye X (.os h1 h2)|vw h1 h2 h3=>cases n <;>exact Ur X h1 h2 h3|e0=>cases n <;>exact .e0
  |rc W=>cases n <;>exact W.aph .rs λb Y=>n8 (J4 Y)
  |rp h1 h2 h3=>
   rename_i E id off nn cap b o i hd;have key:Rel F dv w (bif Nat.beq E 0 then .any else XX E off i (ap h id)) (.pointer (some ⟨b,o+i.toNat*E+off,none⟩)):=by
    cases hz:Nat.beq E 0 with
    |true=>exact .any _
    |false=>
     simp only[cond_false];cases ho:ap h id with
     |row k l=>
      simp only[XX];cases Y:Nat.beq E (aa k)with
      |false=>exact .any _
      |true=>
       have hsz:=alH Y;obtain⟨hd',e0,e⟩:=X.at ho rfl;rw[h1]at e0;cases e0;rcases e with⟨a,V,_⟩ | ⟨b',o',cap',cs,ty,V,e2,e3,e4,e5,e6,e7⟩;grind
       rw[h2]at V;simp only[amF,alK,am6]at V;obtain⟨⟨rfl,rfl,_⟩,rfl,rfl⟩:=V;rw[hsz];exact apB.ep e3 e7 (X.apart id hd b h1 (by simp[e2])) h3 off
     |_=>exact .any _
   cases n <;>exact key
  |gr h1 h2 h3=>
   rename_i id i hd;have key:Rel F dv w (T4 i (ap h id)) v:=by
    cases ho:ap h id with
    |apw k l=>
     obtain⟨hd',e0,e⟩:=X.at ho rfl;rw[h1]at e0;cases e0;rcases e with⟨_,_,V,_⟩ | ⟨b,o,cap,cs,ty,bs,V,e2,e3,e4,e5,e6,e7,e8,e9⟩;grind
     obtain⟨b1,k1,k2,k3,k4⟩:=e9.get h2;exact OS (λ_ h=>h) k3 λc hc=>X.apart id hd c h1 (by grind)
    |_=>exact .any _
   cases n <;>exact key
  |gp h1 h2 h3=>
   rename_i E id off nn cap b o i j hd;have key:Rel F dv w (bif Nat.beq E 0 then .any else Qu E off i j (ap h id)) (.pointer (some ⟨b,o+j.toNat*E+off,none⟩)):=by
    cases hz:Nat.beq E 0 with
    |true=>exact .any _
    |false=>
     simp only[cond_false];cases ho:ap h id with
     |apw k l=>
      simp only[Qu];cases Y:Nat.beq E (aa k)with
      |false=>exact .any _
      |true=>
       have hsz:=alH Y;obtain⟨hd',e0,e⟩:=X.at ho rfl;rw[h1]at e0;cases e0;rcases e with⟨_,_,V,_⟩ | ⟨b',o',cap',cs,ty,bs,V,e2,e3,e4,e5,e6,e7,e8,e9⟩;grind
       obtain⟨b1,k1,k2,k3,k4⟩:=e9.get h2;rcases k3 with⟨a,m1,_⟩ | ⟨b2,o2,cap2,cs2,ty2,m1,m2,m3,m4,m5,m6,m7⟩;grind
       simp only[amF,alK,am6]at m1;obtain⟨⟨rfl,rfl,_⟩,rfl,rfl⟩:=m1;rw[hsz];exact apB.ep m3 m7 (X.apart id hd b h1 (by grind)) h3 off
     |_=>exact .any _
   cases n <;>exact key
  |ep=>grind
  |rs c W h0' h1 h2=>cases n <;>exact Rel.aph (.rs c W h0' h1 h2) .rs λb Y=>n8 (J4 Y)
  |rs0=>cases n <;>exact .rs0|ls=>grind
  |rm ck cv es clock W h1 h2 h3 h4 h5=>cases n <;>exact Rel.aph (.rm ck cv es clock W h1 h2 h3 h4 h5) .rm λb Y=>n8 (J4 Y)
  |rm0=>cases n <;>exact .rm0|agg=>grind|tup=>grind|fn=>grind
 intro n;induction n with
 |zero=>
  intro s v O;cases s <;>first|exact .any _|(refine pg 0 _ _ O ?_ ?_ ?_ ?_ ?_ ?_ <;>intros <;>(intro e;cases e)) |cases O
 |succ n ih=>
  intro s v O;cases s with
  |ptr id off=>
   cases O with
   |ptr h1 h2=>
    rename_i b hd;simp only[fD];cases ho:ap h id with
    |cells l=>
     simp only[RS];obtain⟨hd',e0,b',cs,ty,V,e2,e3,e4,e5⟩:=X.at ho rfl;rw[h1]at e0;cases e0;rw[h2]at V;cases V;have:=Rel.ep (F:=F) (own:=dv) (w:=w) (cells:=l.map (fD h n)) (off:=off) (b:=b) (o:=0) (λj=>cs.getD j undef)
      (λj s U=>by
       obtain⟨x,hx,rfl⟩:=k9 U;refine⟨n8 (X.apart _ _ b h1 (by simp[e2])),?_⟩;have hjl:j<cs.size:=by grind
       rw[alQ,dY e3];simp[hjl])
      (λj s U=>by
       grind)
     grind
    |_=>exact .any _
  |ep l o=>
   cases O with
   |ep c h1 h2=>
    simp only[fD];exact .ep c (λj s U=>by grind [n8,J4]) (λj s U=>by grind)
  |ls z l=>
   cases O with
   |ls c hz W h1 h2=>
    simp only[fD];have:=Rel.ls (F:=F) (own:=dv) (w:=w) (z:=z) (l:=l.map (fD h n)) c (by simpa using hz) W (λj s U=>by obtain⟨x,hx,rfl⟩:=k9 U;exact⟨n8 (J4 (h1 j x hx).1),(h1 j x hx).2⟩) (λj s U=>by grind);grind
  |agg l=>cases O with|agg W h1=>simp only[fD];exact .agg (by grind) λj s U=>by grind
  |tup l=>cases O with|tup W h1=>simp only[fD];exact .tup (by grind) λj s U=>by grind
  |fn f l m=>cases O with|fn W h0' h1 h2=>simp only[fD];exact .fn (by grind) (by grind) (λj s U=>by grind) λj s U=>by grind
  |_=>first|(refine pg (n+1) _ _ O ?_ ?_ ?_ ?_ ?_ ?_ <;>intros <;>(intro e;cases e)) |cases O
theorem Us:∀ (n:Nat) (s:SV) (v:Value),PF s->Rel F own w s v->Rel (cH F own) dv w (fD h n s) v:=by
 have E:∀ b,¬cH F own b->¬cH (cH F own) dv b:=λb hb=>n8 hb;intro n;induction n with
 |zero=>
  intro s v W O;cases W with
  |any=>exact .any _|v x=>exact O.aph (.v x) E|e0=>exact O.aph .e0 E
  |rc=>cases O with|rc V=>exact V.aph .rs E
  |rs=>exact O.aph .rs E|rm=>exact O.aph .rm E|_=>exact .any _
 |succ n ih=>
  intro s v W O;cases W with
  |any=>exact .any _|v x=>exact O.aph (.v x) E|e0=>exact O.aph .e0 E
  |rc=>cases O with|rc V=>exact V.aph .rs E
  |rs=>exact O.aph .rs E|rm=>exact O.aph .rm E
  |ep X=>
   cases O with
   |ep c h1 h2=>
    simp only[fD];exact .ep c (λj s U=>by grind) (λj s U=>by grind)
  |ls X=>
   cases O with
   |ls c hz V h1 h2=>
    simp only[fD];rename_i z l m b o cap;have:=Rel.ls (F:=cH F own) (own:=dv) (w:=w) (z:=z) (l:=l.map (fD h n)) c (by simpa using hz) V (λj s U=>by obtain⟨x,Y,rfl⟩:=k9 U;exact⟨E _ (h1 j x Y).1,(h1 j x Y).2⟩) (λj s U=>by grind);grind
  |agg X=>cases O with|agg V h1=>simp only[fD];exact .agg (by grind) λj s U=>by grind
  |tup X=>cases O with|tup V h1=>simp only[fD];exact .tup (by grind) λj s U=>by grind
  |fn X hq'=>cases O with|fn V h0' h1 h2=>simp only[fD];exact .fn (by grind) (by grind) (λj s U=>by grind) λj s U=>by grind
def cnt (n:Nat):List SV->Nat
 | [] =>0|x::r=>(aS n x).length+cnt n r
def wR (F:Nat->Prop)(own:Own)(w:World):Nat->Nat->SV->Value->Prop
 |_,b,.nw _ _,v=>∃ hd,own b=some hd/\v=hd.v/\pj v=true|_,b,.nm _ _ _,v=>∃ hd,own b=some hd/\v=hd.v/\pj v=true|_,b,.ng _ _,v=>∃ hd,own b=some hd/\v=hd.v/\pj v=true|n+1,b,.agg l,v=>∃ vs,v=.agg vs/\vs.size=l.length/\∀ (j:Nat) (s:SV),l[j]? =some s->wR F own w n (b+cnt n (l.take j)) s (vs.getD j undef)|n+1,b,.tup l,v=>∃ vs,v=.tuple vs/\vs.size=l.length/\∀ (j:Nat) (s:SV),l[j]? =some s->wR F own w n (b+cnt n (l.take j)) s (vs.getD j undef)|_,_,s,v=>Rel (cH F own) dv w s v
theorem za (f:Nat->SV->SV)(n:Nat):∀ (l:List SV) (b j:Nat) (s:SV),(ri f (λs=>(aS n s).length) b l)[j]? =some s->∃ x,l[j]? =some x/\s=f (b+cnt n (l.take j)) x
 | [],b,j,s,h=>by simp[ri]at h
 |x::r,b,0,s,h=>by grind [ri,cnt]
 |x::r,b,j+1,s,h=>by
  simp[ri]at h;obtain⟨y,h1,h2⟩:=za f n r _ j s h;grind [cnt]
theorem zb (f:Nat->SV->SV)(c:SV->Nat):∀ (l:List SV) (b:Nat),(ri f c b l).length=l.length
 | [],b=>rfl
 |x::r,b=>by simp[ri,zb f c r]
theorem Iz:∀ (n:Nat) (s:SV) (v:Value),i6 n s=true->(∀ k l,s≠ .nw k l)->(∀ k k2 l,s≠ .nm k k2 l)->(∀ k l,s≠ .ng k l)->(∀ l,s≠ .agg l)->(∀ l,s≠ .tup l)->Rel F own w s v->Rel F' bn w' s v:=by
 intro n s v h X O V W U E;cases s with
 |v x=>cases E;exact .v _|nw k l=>grind|nm k k2 l=>grind|ng k l=>grind|agg l=>grind|tup l=>grind|_=>cases n <;>simp[i6]at h
theorem EK {A1:Own}{m:Nat}(U:∀ id hd,bn id=some hd->A1 (id+m)=some hd):∀ (n b:Nat) (s:SV) (v:Value),wR F bn w n b s v->
  ((∀ c,¬cH (cH F bn) dv c->¬cH F' A1 c)\/i6 n s=true)->Rel F' A1 w (iE n (b+m) s) v:=by
 intro n;induction n with
 |zero=>
  intro b s v h hc;cases s with
  |nw k l=>obtain⟨hd,h1,rfl,O⟩:=h;exact .os (U _ _ h1) O
  |nm k k2 l=>obtain⟨hd,h1,rfl,O⟩:=h;exact .os (U _ _ h1) O
  |ng k l=>obtain⟨hd,h1,rfl,O⟩:=h;exact .os (U _ _ h1) O
  |agg l=>
   have E:Rel (cH F bn) dv w (.agg l) v:=h;rcases hc with hc|hc;exact E.aph (py E) hc;simp[i6]at hc
  |tup l=>
   have E:Rel (cH F bn) dv w (.tup l) v:=h;rcases hc with hc|hc;exact E.aph (py E) hc;simp[i6]at hc
  |_=>
   have E:Rel (cH F bn) dv w _ v:=h;rcases hc with hc|hc;exact E.aph (py E) hc;exact Iz _ _ _ hc (by intros;intro e;cases e) (by intros;intro e;cases e) (by intros;intro e;cases e) (by intros;intro e;cases e) (by intros;intro e;cases e) E
 |succ n X=>
  intro b s v h hc;cases s with
  |nw k l=>obtain⟨hd,h1,rfl,O⟩:=h;exact .os (U _ _ h1) O
  |nm k k2 l=>obtain⟨hd,h1,rfl,O⟩:=h;exact .os (U _ _ h1) O
  |ng k l=>obtain⟨hd,h1,rfl,O⟩:=h;exact .os (U _ _ h1) O
  |agg l=>
   obtain⟨vs,rfl,h1,h2⟩:=h;refine .agg (by grind [zb]) λj s V=>?_;obtain⟨x,W,rfl⟩:=za _ n l _ j s V;grind [i6]
  |tup l=>
   obtain⟨vs,rfl,h1,h2⟩:=h;refine .tup (by grind [zb]) λj s V=>?_;obtain⟨x,W,rfl⟩:=za _ n l _ j s V;grind [i6]
  |_=>
   have E:Rel (cH F bn) dv w _ v:=h;rcases hc with hc|hc;exact E.aph (py E) hc;exact Iz _ _ _ hc (by intros;intro e;cases e) (by intros;intro e;cases e) (by intros;intro e;cases e) (by intros;intro e;cases e) (by intros;intro e;cases e) E
theorem EL:∀ (n:Nat) {s:SV} {v:Value},Rel F own w s v->aS n s=[]
 |0,s,v,h=>by cases h <;>rfl
 |n+1,s,v,h=>by
  cases h <;>first|rfl|skip
  rename_i l vs U h1;simp only[aS,anS];intro x E;obtain⟨j,O⟩:=ams E;exact EL n (h1 j x O);rename_i l vs U h1;simp only[aS,anS];intro x E;obtain⟨j,O⟩:=ams E;exact EL n (h1 j x O)
theorem Ut:∀ (n b:Nat) {s:SV} {v:Value},Rel F dv w s v->wR F dv w n b s v:=by
 have V:∀ c,¬cH F dv c->¬cH (cH F dv) dv c:=λc hc=>n8 hc;intro n;induction n with
 |zero=>intro b s v h;have:=h.aph (py h) V;cases s <;>first|exact this|cases h
 |succ n U=>
  intro b s v h;have:=h.aph (py h) V;cases s with
  |agg l=>cases h with|agg O h1=>exact⟨_,rfl,O,λj s E=>U _ (h1 j s E)⟩
  |tup l=>cases h with|tup O h1=>exact⟨_,rfl,O,λj s E=>U _ (h1 j s E)⟩
  |nw=>cases h|nm=>cases h|ng=>cases h|gd=>cases h|_=>exact this
end
def an:Con->Prop
 | .det p _=>p| .rel _ p _ _=>p| .may _ _ _=>True
def dL:Con->SV->Prop
 | .det _ s,s'=>s'=s| .rel _ _ post out,s'=>∃ r,post r/\s'=out r| .may ok s _,s'=>ok=true/\s'=s
def ke:Con->Value->Prop
 | .may ok _ x,x'=>ok=false/\x'=x|_,_=>False
section
variable {P:Program}{F F':Nat->Prop}{own bn:Own}{w w':World}{ts:Tis}
structure Handed (F:Nat->Prop)(w:World)(bn:Own)(w':World)(s:SV)(u:Value):Prop where
 hp:Hp F bn w' (aS 3 s)
 val:wR F bn w' 3 0 s u
 fresh:∀ (id:Nat) (hd:Hd) (b:Nat),bn id=some hd->b∈hd.bs->w.heap.size<=b
structure zs (P:Program)(f:FuncId)(C:List SV->Option Con):Prop where
 enter:∀ l c,C l=some c->∀ (args:Array Value) (w:World),(callFunc f args).run P w=.ok (.enter f args) w
 calls:∀ l c,C l=some c->an c->∀ (F:Nat->Prop) (w:World) (vs:Array Value),(∀ b,F b->b<w.heap.size)->apx F dv w l vs->
  Calls P f vs w (λe w'=>(∃ s u bn,dL c s/\e=.returned u/\Handed F w bn w' s u/\Below w.heap.size w w')\/(∃ x,ke c x/\e=.panicked [{ v:=x,recovered:=false}]/\Below w.heap.size w w'))
def J5 (F:Nat->Prop)(w:World)(own:Own)(n:Nat)(e:Ending)(bn:Own)(w':World):Rs->Prop
 | .ret s h=>(∃ u,e=.returned u/\Rel F bn w' s u)/\Hp F bn w' h/\Fr { w:=w,own:=own} bn w'/\n<=h.length| .pan x h=>e=.panicked [{ v:=x,recovered:=false}]/\Hp F bn w' h/\Fr { w:=w,own:=own} bn w'/\n<=h.length
structure ape (P:Program)(f:FuncId)(C:List SV->List Ob->Option apd):Prop where
 enter:∀ l h c,C l h=some c->∀ (args:Array Value) (w:World),(callFunc f args).run P w=.ok (.enter f args) w
 calls:∀ l h c,C l h=some c->c.pre->∀ (F:Nat->Prop) (own:Own) (w:World) (vs:Array Value),Hp F own w h->apx F own w l vs->
  Calls P f vs w (λe w'=>∃ r bn,c.post r/\J5 F w own h.length e bn w' (c.res r))
abbrev rd (r:Option Nat):Fence:= { fn:=λ_=>True,depth:=none,alive:=false,round:=r}
def ZR (P:Program)(v:Value)(vs:Array Value)(w:World)(R:Ending->World->Prop):Prop:=
 (∃ f args,(Sq v vs).run P w=.ok (.enter f args) w/\Calls P f args w R)\/(∃ l f tmps as bd,(Sq v vs).run P w=.ok (.round l f tmps as bd) w/\RoundIn (rd none) 0 P l f tmps as bd w R)
structure YFr (bs bs':List Nat)(w w':World):Prop where
 os:w'.os=w.os
 tape:w'.tape=w.tape
 output:w'.output=w.output
 size:w.heap.size<=w'.heap.size
 block:∀ b,b<w.heap.size->b ∉ bs->w'.heap[b]? =w.heap[b]?
 bs:∀ b∈bs',b<w'.heap.size/\(b∈bs\/w.heap.size<=b)
def YOk (P:Program)(C:List SV->Res->Option aqo):Prop:=
 ∀ l r c,C l r=some c->c.pre->∀ (F:Nat->Prop) (bs:List Nat) (w:World) (vs:Array Value),r.R F bs w->(∀ b,F b->b<w.heap.size)->(∀ b∈bs,b<w.heap.size/\¬F b)->apx (λb=>F b\/b∈bs) dv w l vs->
  ZR P r.yv vs w (λe w'=>∃ a bs',c.post a/\e=.returned (.bool (c.res a).1)/\(c.res a).2.R F bs' w'/\(c.res a).2.yv=r.yv/\YFr bs bs' w w')
structure X2 (P:Program)(G:Cons):Prop where
 p:∀ f,zs P f (G.p f)
 o:∀ f,ape P f (G.o f)
 y:YOk P G.y
variable {r:Option Nat}{n:Nat}{f:FuncId}{R:Ending->World->Prop}
def mT{P:Program}{vs:Array Value}{w:World}(h:Calls P f vs w R):CallsIn (rd r) n P f vs w R:=(callsIn_wide (n:=n)).2 h
def sF{P:Program}{vs:Array Value}{w:World}(h:CallsIn (rd none) n P f vs w R):Calls P f vs w R:=(callsIn_wide (n:=n)).1 h
theorem Mh{P:Program}{l:Nat}{tmps:Array Value}{E O:Code}{w:World}(h:RoundIn (rd none) 0 P l f tmps E O w R):RoundIn (rd r) n P l f tmps E O w R:=
 ⟨trivial,λc cs U=>h.2 c cs (by simp[Fence.room])⟩
variable {k:Tag}{x:k.T}{j:Nat}
theorem J6(E:ao8 k=0){s:SV}(h:(cellsOf k x)[j]? =some s):∃ y,s=.v y:=by
 grind [wL]
theorem IA(U:ao8 k=0){v:Value}(h:Rel F own w (svT k x) v):Rel F' bn w' (svT k x) v:=by
 unfold svT at h |-;cases O:ot k with
 |true=>
  rw[O]at h;simp only[cond_true]at h |-;obtain⟨vs,rfl,h1⟩:=tQ h;exact .agg h1.1 λj s E=>by
   obtain⟨y,rfl⟩:=J6 U E;have:=cG (h1.2 j _ E);rw[this];exact .v y
 |false=>
  rw[O]at h;simp only[cond_false,gu]at h |-;cases hc:(cellsOf k x)[0]? with
  |none=>exact .any _
  |some s=>
   rw[hc]at h;obtain⟨y,rfl⟩:=J6 U hc;have:=cG h;rw[this];exact .v y
variable {l:List k.T}
theorem apB.aph{o:Nat}{cs:Array Value}(h:apB F own w k l o cs)(hc:(∀ b,¬cH F own b->¬cH F' bn b)\/ao8 k=0):apB F' bn w k l o cs:=λi x hi j s E=>by
 obtain⟨u,h1,h2⟩:=h i x hi j s E;refine⟨u,h1,?_⟩;rcases hc with hc|hk;exact h2.aph (qI E) hc;obtain⟨y,rfl⟩:=J6 hk E;have:=cG h2;rw[this];exact .v y
theorem apm.aph{v:Value}{bs:List Nat}(h:apm F own w k l v bs)(hc:(∀ b,¬cH F own b->¬cH F' bn b)\/ao8 k=0):apm F' bn w k l v bs:=by
 rcases h with h| ⟨b,o,cap,cs,ty,h1,h2,U,V,W,O,E⟩;exact .inl h;exact .inr ⟨b,o,cap,cs,ty,h1,h2,U,V,W,O,E.aph hc⟩
theorem apr.aph(hc:(∀ b,¬cH F own b->¬cH F' bn b)\/ao8 k=0):∀ {l:List (List k.T)} {vs:List Value} {bs:List Nat},apr F own w k l vs bs->apr F' bn w k l vs bs
 | [],[],bs,h=>h|l::W,v::vs,bs,⟨U,E,h1,V,h2,O⟩ =>⟨U,E,h1,V,h2.aph hc,O.aph hc⟩| [],_::_,_,h=>h.elim|_::_,[],_,h=>h.elim
def Plain (o:Ob):Prop:=(∃ (k:Tag) (l:List k.T),o=.row k l)\/(∃ (k k2:Tag) (l:List (k.T×k2.T)),o=.mp k k2 l none)\/∃ (k:Tag) (l:List (List k.T)),o=.apw k l
def ZS (o:Ob):Prop:=match o with
 | .row k _=>ao8 k=0| .mp k k2 _ _=>ao8 k=0/\ao8 k2=0| .apw k _=>ao8 k=0|_=>False
theorem apF.aph {hd:Hd}{o:Ob}(ho:Plain o)(h:apF F own w hd o)(hc:(∀ b,¬cH F own b->¬cH F' bn b)\/ZS o):apF F' bn w hd o:=by
 rcases ho with⟨k,l,rfl⟩ | ⟨k,k2,l,rfl⟩ | ⟨k,l,rfl⟩;exact apm.aph h hc;obtain⟨b,es,U,h1,h2,O,E,V,X⟩:=h;refine⟨b,es,U,h1,h2,O,⟨E.1,λi x hi=>?_⟩,V,trivial⟩;obtain⟨e,e1,e2,Y,W⟩:=E.2 i x hi;refine⟨e,e1,e2,?_,?_⟩;rcases hc with hc|hk;exact Y.aph (ub _ _) hc;exact IA hk.1 Y;rcases hc with hc|hk;exact W.aph (ub _ _) hc;exact IA hk.2 W;rcases h with h| ⟨b,o,cap,cs,ty,bs,h1,h2,O,E,V,X,h7,h8,h9⟩;exact .inl h;exact .inr ⟨b,o,cap,cs,ty,bs,h1,h2,O,E,V,X,h7,h8,h9.aph hc⟩
theorem zc:∀ (n:Nat) (s:SV) (o:Ob),o∈aS n s->Plain o/\(i6 n s=true->ZS o):=by
 intro n;induction n with
 |zero=>
  intro s o h;cases s <;>simp[aS]at h <;>subst h;exact⟨.inl ⟨_,_,rfl⟩,λE=>alH E⟩;exact⟨.inr (.inl ⟨_,_,_,rfl⟩),λE=>by simp only[i6,alG]at E;exact⟨alH E.1,alH E.2⟩⟩;exact⟨.inr (.inr ⟨_,_,rfl⟩),λE=>alH E⟩
 |succ n O=>
  intro s o h;cases s with
  |nw k l=>simp[aS]at h;subst h;exact⟨.inl ⟨_,_,rfl⟩,λE=>alH E⟩
  |nm k k2 l=>simp[aS]at h;subst h;exact⟨.inr (.inl ⟨_,_,_,rfl⟩),λE=>by simp only[i6,alG]at E;exact⟨alH E.1,alH E.2⟩⟩
  |ng k l=>simp[aS]at h;subst h;exact⟨.inr (.inr ⟨_,_,rfl⟩),λE=>alH E⟩
  |agg l=>
   grind [aS,i6]
  |tup l=>
   grind [aS,i6]
  |_=>simp[aS]at h
variable {h:List Ob}
theorem Mi{id:Nat}(hd:dx (ap h id)=false):ap h id∈h:=by
 grind [tL,dx]
theorem sd {α:Type}:∀ {l:List α} {i j:Nat} {x:α},l.Nodup->l[i]? =some x->l[j]? =some x->i=j
 | [],i,j,x,_,h,_=>by simp at h
 |a::r,0,0,x,_,_,_=>rfl
 |a::r,0,j+1,x,hn,h1,h2=>by
  grind
 |a::r,i+1,0,x,hn,h1,h2=>by
  grind
 |a::r,i+1,j+1,x,hn,h1,h2=>by
  simp at h1 h2;rw[ami]at hn;rw[sd hn.2 h1 h2]
theorem Bn(hp:Hp F own w h){s:SV}{u:Value}{F1:Nat->Prop}(hF1:(∀ b,F1 b↔cH F own b)\/((∀ b,F1 b↔F b)/\i6 3 s=true))(Y:Below w.heap.size w w')(X:Handed F1 w bn w' s u):
  ∃ A1,Hp F A1 w' (h++aS 3 s)/\Fr { w:=w,own:=own} A1 w'/\Rel F A1 w' (iE 3 h.length s) u/\∀ id,id<h.length->A1 id=own id:=by
 have hFF:∀ b,F b->F1 b:=λb hf=>by
  rcases hF1 with h1| ⟨h1,_⟩;exact(h1 b).2 (.inl hf);exact(h1 b).2 hf
 let A1:Own:=λid=>if id<h.length then own id else bn (id - h.length)
 have o1:∀ id hd,A1 id=some hd->(id<h.length/\own id=some hd)\/(h.length<=id/\bn (id - h.length)=some hd):=λid hd e=>by
  simp only[A1]at e;split at e
  rename_i hlt;exact .inl ⟨hlt,e⟩;rename_i hlt;exact .inr ⟨by omega,e⟩
 have o2:∀ id hd,own id=some hd->A1 id=some hd:=λid hd e=>by
  simp only[A1];rw[if_pos (hp.dom id hd e)];exact e
 have o3:∀ id hd,bn id=some hd->A1 (id+h.length)=some hd:=λid hd e=>by
  simp only[A1];rw[if_neg (by omega),aob];exact e
 have fr:Fr { w:=w,own:=own} A1 w':=Fr.ap0 (λid hd e=>⟨hd,o2 id hd e,.refl _⟩) (λid hd b e E=>by
   rcases o1 id hd e with⟨_,e⟩ | ⟨_,e⟩;exact .inl ⟨id,hd,e,E⟩;exact .inr (X.fresh _ hd b e E)) (λb hbl _=>Y.block b hbl) Y.size Y.os Y.tape Y.output
 have g:apK F own w A1 w':=fr.apS;have V:(∀ b,¬cH F1 bn b->¬cH F A1 b)\/i6 3 s=true:=by
  rcases hF1 with h1| ⟨_,h2⟩;left;rintro b hn (hf| ⟨id,hd,e,E⟩);exact hn (.inl (hFF b hf));rcases o1 id hd e with⟨_,e⟩ | ⟨_,e⟩;exact hn (.inl ((h1 b).2 (.inr ⟨id,hd,e,E⟩)));exact hn (.inr ⟨_,hd,e,E⟩);exact .inr h2
 refine⟨A1,⟨λid hd e=>?_,λb hf=>alT (hp.ao1 b hf) Y.size,λid hd b e E=>?_,λi j hi hj b U W hb1 hb2=>?_,λid hd b e E=>?_,λid O=>?_⟩,fr,?_,λid hlt=>by simp only[A1];rw[if_pos hlt]⟩;rcases o1 id hd e with⟨hlt,_⟩ | ⟨hge,e⟩;rw[alN];omega;have:=X.hp.dom _ hd e;rw[alN];omega;rcases o1 id hd e with⟨_,e⟩ | ⟨_,e⟩;exact hp.apart id hd b e E;exact λhf=>X.hp.apart _ hd b e E (hFF b hf);rcases o1 i hi U with⟨l1,U⟩ | ⟨l1,U⟩ <;>rcases o1 j hj W with⟨l2,W⟩ | ⟨l2,W⟩;exact hp.inj i j hi hj b U W hb1 hb2;have:=hp.lt i hi b U hb1;have:=X.fresh _ hj b W hb2;omega;have:=hp.lt j hj b W hb2;have:=X.fresh _ hi b U hb1;omega;have:=X.hp.inj _ _ hi hj b U W hb1 hb2;omega;rcases o1 id hd e with⟨_,e⟩ | ⟨_,e⟩;exact alT (hp.lt id hd b e E) Y.size;exact X.hp.lt _ hd b e E;rw[sC]at O |-;by_cases hlt:id<h.length
 rw[if_pos hlt]at O |-;obtain⟨hd,U,W⟩:=hp.obs id O;exact⟨hd,o2 id hd U,W.carry g.apM Y.size λb E=>Y.block b (hp.lt id hd b U E)⟩;rw[if_neg hlt]at O |-;obtain⟨hd,U,W⟩:=X.hp.obs _ O;obtain⟨q1,q2⟩:=zc 3 s _ (Mi O);have e3:=o3 _ hd U;rw[Nat.sub_add_cancel (by omega)]at e3;exact⟨hd,e3,W.aph q1 (V.imp (λh=>h) q2)⟩;have:=EK (F':=F) (A1:=A1) (m:=h.length) o3 3 0 s u X.val (V.imp (λhk c hc=>hk c λho=>hc (.inl ho)) id)
 rwa[alQ]at this
variable {G:Cons}
theorem DL(hG:X2 P G)(O:Hp F own w h){args:List SV}{vs:Array Value}(X:apx F own w args vs){c:Con}(hc:G.p f (args.map (fD h 6))=some c)(E:an c)
  (U:args.all (c8 3)=true\/∀ s,dL c s->i6 3 s=true):
  (callFunc f vs).run P w=.ok (.enter f vs) w/\Calls P f vs w (λe w'=>(∃ s u A1,dL c s/\e=.returned u/\Hp F A1 w' (h++aS 3 s)/\Fr { w:=w,own:=own} A1 w'/\Rel F A1 w' (iE 3 h.length s) u/\Below w.heap.size w w'/\∀ id,id<h.length->A1 id=own id)\/(∃ x,ke c x/\e=.panicked [{ v:=x,recovered:=false}]/\Below w.heap.size w w')):=by
 refine⟨(hG.p f).enter _ c hc vs w,?_⟩;rcases U with W|hsc;have hpf:∀ (j:Nat) (s:SV),args[j]? =some s->PF s:=λj s V=>by
  rw[amc]at W;exact gb 3 s (W s (alU V))
 refine((hG.p f).calls _ c hc E (cH F own) w vs (λb hb=>?_) ⟨by simpa using X.1,λj s V=>?_⟩).mono ?_;rcases hb with hf| ⟨id,hd,e,hbb⟩;exact O.ao1 b hf;exact O.lt id hd b e hbb;obtain⟨x,Y,rfl⟩:=k9 V;exact Us 6 x _ (hpf j x Y) (X.2 j x Y);rintro e w' (⟨s,u,bn,h1,h2,h3,h4⟩ |hp');obtain⟨A1,q1,q2,q3,q4⟩:=Bn O (.inl λb=>ao6) h4 h3;grind
 grind
 refine((hG.p f).calls _ c hc E F w vs O.ao1 ⟨by simpa using X.1,λj s V=>?_⟩).mono ?_;obtain⟨x,Y,rfl⟩:=k9 V;exact xL O 6 x _ (X.2 j x Y);rintro e w' (⟨s,u,bn,h1,h2,h3,h4⟩ |hp');obtain⟨A1,q1,q2,q3,q4⟩:=Bn O (.inr ⟨λb=>ao6,hsc s h1⟩) h4 h3;grind
 grind
theorem pz:∀ (ids:List Nat) (id k:Nat),y4 id ids=some k->ids[k]? =some id
 | [],id,k,h=>by simp[y4]at h
 |a::r,id,k,h=>by
  simp only[y4]at h;cases O:Nat.beq a id with
  |true=>simp_all <;>grind
  |false=>
   rw[O]at h;simp only[cond_false]at h;cases E:y4 id r with
   |none=>grind|some j=>rw[E]at h;simp at h;subst h;simpa using pz r id j E
theorem wS (n:Nat):∀ l:List Nat,C5 n l=true↔n∈l
 | [] =>by simp[C5]
 |m::r=>by
  simp only[C5];cases E:Nat.beq m n with
  |true=>simp_all
  |false=>
   have:m≠n:=λe=>by simp_all
   simp only[cond_false,wS n r,alV];grind
theorem qJ (h:List Ob):∀ (n:Nat) (O E:List Nat),E.Nodup->(reach h n O E).Nodup
 |0,_,E,hn=>hn|n+1,[],E,hn=>hn
 |n+1,id::O,E,hn=>by
  simp only[reach];cases W:C5 id E with
  |true=>exact qJ h n _ _ hn
  |false=>
   refine qJ h n _ _ ?_;rw[amU];refine⟨hn,by simp,λa V b U=>?_⟩;simp at U;subst U;rintro rfl;have:=(wS a E).2 V;grind
structure Rn (m:Nat->Option Nat)(own bn:Own):Prop where
 ids:∀ i j hd,m i=some j->own i=some hd->∃ hd',bn j=some hd'/\hd.like hd'
variable {m:Nat->Option Nat}
theorem DM(hm:Rn m own bn)(ho:∀ b,¬cH F own b->¬cH F' bn b):∀ (n:Nat) (s:SV) (v:Value),Rel F own w s v->Rel F' bn w (ren m n s) v:=by
 have base:∀ (n:Nat) (s:SV) (v:Value),Rel F own w s v->(∀ l o,s≠ .ep l o)->(∀ z l,s≠ .ls z l)->(∀ l,s≠ .agg l)->(∀ l,s≠ .tup l)->(∀ f l m,s≠ .fn f l m)->Rel F' bn w (ren m n s) v:=by
  intro n s v V n1 n2 n3 n4 n5;have E:∀ {id:Nat} {hd:Hd} {f:Nat->SV} {v:Value},own id=some hd->(∀ j hd',bn j=some hd'->hd.like hd'->Rel F' bn w (f j) v)->Rel F' bn w (zR f (m id)) v:=by
   intro id hd f v h1 h2;cases hm':m id with
   |none=>exact .any _
   |some j=>
    obtain⟨hd',U,O⟩:=hm.ids id j hd hm' h1;exact h2 j hd' U O
  cases V with
  |any=>cases n <;>exact .any _|v x=>cases n <;>exact .v _
  |ptr h1 h2=>cases n <;>exact E h1 λj hd' U O=>.ptr U (O.1.trans h2)
  |os h1 h2=>cases n <;>exact E h1 λj hd' U O=>by rw[<-O.2.1]at h2 |-;exact .os U h2
  |e0=>cases n <;>exact .e0|rc W=>cases n <;>exact .rc (W.aph .rs ho)
  |rp h1 h2 X=>cases n <;>exact E h1 λj hd' U O=>.rp U (O.2.1.trans h2) X
  |gr h1 h2 X=>cases n <;>exact E h1 λj hd' U O=>.gr U (by rw[O.2.2];exact h2) X
  |vw h1 h2 X=>cases n <;>exact E h1 λj hd' U O=>.vw U (by rw[O.2.1];exact h2) X
  |gp h1 h2 X=>cases n <;>exact E h1 λj hd' U O=>.gp U (by rw[O.2.2];exact h2) X
  |ep=>grind|rs c W h0' h1 h2=>cases n <;>exact Rel.aph (.rs c W h0' h1 h2) .rs ho|rs0=>cases n <;>exact .rs0|ls=>grind|rm ck cv es clock W h1 h2 X h4 h5=>cases n <;>exact Rel.aph (.rm ck cv es clock W h1 h2 X h4 h5) .rm ho|rm0=>cases n <;>exact .rm0|agg=>grind|tup=>grind|fn=>grind
 intro n;induction n with
 |zero=>
  intro s v V;cases s <;>first|exact .any _|(refine base 0 _ _ V ?_ ?_ ?_ ?_ ?_ <;>intros <;>(intro e;cases e)) |cases V
 |succ n ih=>
  intro s v V;cases s with
  |ep l o=>
   cases V with
   |ep c h1 h2=>
    simp only[ren];exact .ep c (λj s Y=>by grind) (λj s Y=>by grind)
  |ls z l=>
   cases V with
   |ls c hz W h1 h2=>
    simp only[ren];have:=Rel.ls (F:=F') (own:=bn) (w:=w) (z:=z) (l:=l.map (ren m n)) c (by simpa using hz) W (λj s Y=>by obtain⟨x,hx,rfl⟩:=k9 Y;exact⟨ho _ (h1 j x hx).1,(h1 j x hx).2⟩) (λj s Y=>by grind);grind
  |agg l=>cases V with|agg W h1=>simp only[ren];exact .agg (by grind) λj s Y=>by grind
  |tup l=>cases V with|tup W h1=>simp only[ren];exact .tup (by grind) λj s Y=>by grind
  |fn f l l2=>cases V with|fn W h0' h1 h2=>simp only[ren];exact .fn (by grind) (by grind) (λj s Y=>by grind) λj s Y=>by grind
  |_=>first|(refine base (n+1) _ _ V ?_ ?_ ?_ ?_ ?_ <;>intros <;>(intro e;cases e)) |cases V
theorem EM(hm:Rn m own bn)(ho:∀ b,¬cH F own b->¬cH F' bn b)(ho2:∀ b,b<w.heap.size->cH F' bn b->cH F own b){hd:Hd}{o:Ob}(h:apF F own w hd o):apF F' bn w hd (va m o):=by
 cases o with
 |cells l=>obtain⟨b,cs,ty,h1,h2,U,h4,h5⟩:=h;exact⟨b,cs,ty,h1,h2,U,by grind,λj s W=>by grind [DM]⟩
 |dead=>trivial|row k l=>exact apm.aph h (.inl ho)
 |mp kk vk l ap1=>
  obtain⟨b,es,V,h1,h2,U,h4,h5,h6⟩:=h;have E:ap3 F' bn w kk vk (eu kk vk l ap1) es:=⟨h4.1,λi x hi=>by
   obtain⟨e,Y,X,e3,e4⟩:=h4.2 i x hi;exact⟨e,Y,X,e3.aph (ub _ _) ho,e4.aph (ub _ _) ho⟩⟩
  match ap1,E,h6 with
  |none,E,_=>exact⟨b,es,V,h1,h2,U,E,h5,trivial⟩
  |some (i,none),E,h6=>
   show apF F' bn w hd (Oo kk vk l none (m i));cases hmi:m i with
   |none=>exact⟨b,es,V,h1,h2,U,E,h5,trivial⟩
   |some k=>
    obtain⟨O,t1,t2⟩:=h6;obtain⟨hd3,Y,X⟩:=hm.ids i k O hmi t1;exact⟨b,es,V,h1,h2,U,E,h5,hd3,Y,X.2.2.trans t2⟩
  |some (i,some x),E,h6=>
   show apF F' bn w hd (Oo kk vk l (some x) (m i));cases hmi:m i with
   |none=>exact λj W=>by cases W
   |some k=>
    obtain⟨O,e,t1,t2,t3⟩:=h6;obtain⟨hd3,Y,X⟩:=hm.ids i k O hmi t1;exact⟨b,es,V,h1,h2,U,E,h5,hd3,e,Y,t2,X.2.1.trans t3⟩
 |apw k l=>
  rcases h with h| ⟨b,o,cap,cs,ty,bs,h1,h2,U,h4,h5,h6,h7,h8,h9⟩;exact .inl h;exact .inr ⟨b,o,cap,cs,ty,bs,h1,h2,U,h4,h5,h6,h7,h8,h9.aph (.inl ho)⟩
 |ab r=>
  refine⟨h.1,r.loc _ _ _ w w h.2 (alJ _) (λb hbl hn=>rfl) (λb hbl hn=>⟨ho2 b hbl hn.1,hn.2⟩)⟩
 |raw o=>exact h
 |mi mid n left cur=>
  obtain⟨b,h1,h2,U⟩:=h;refine⟨b,h1,h2,λj W=>?_⟩;cases mid with
  |none=>cases W
  |some i=>
   obtain⟨hdm,bm,seen,c0,ss,k1,k2,k3,k4⟩:=U i rfl;obtain⟨hd',Y,X⟩:=hm.ids i j hdm W k1;exact⟨hd',bm,seen,c0,ss,Y,X.2.1.trans k2,k3,k4⟩
 |fwd n=>
  cases n with
  |none=>intro j W;cases W
  |some i=>
   intro j W;obtain⟨O,k1,k2,k3⟩:=h i rfl;obtain⟨hd',Y,X⟩:=hm.ids i j O W k1;exact⟨hd',Y,X.2.1.trans k2,k3⟩
 |fz k l=>exact Rel.aph h .rs ho
theorem vo (m:Nat->Option Nat)(o:Ob):dx (va m o)=dx o:=by
 cases o with
 |mp kk E l p=>
  match p with
  |none=>rfl
  |some (i,q) =>
   show dx (Oo kk E l q (m i))=false;cases q <;>cases m i <;>rfl
 |_=>rfl
theorem Yf(Y:Hp F own w h)(ids:List Nat)(hn:ids.Nodup):
  ∃ (Fm:Nat->Prop) (O:Own),Hp Fm O w (rK h ids)/\(∀ b,cH Fm O b↔cH F own b)/\Rn (inN ids) own O/\(∀ b,Fm b↔(F b\/∃ id hd,id ∉ ids/\own id=some hd/\b∈hd.bs))/\(∀ k id,ids[k]? =some id->O k=own id)/\(∀ k,ids.length<=k->O k=none):=by
 let O:Own:=λk=>match ids[k]? with|some id=>own id|none=>none
 let Fm:Nat->Prop:=λb=>F b\/∃ id hd,id ∉ ids/\own id=some hd/\b∈hd.bs
 have o1:∀ k id,ids[k]? =some id->O k=own id:=λk id e=>by grind
 have o2:∀ k,ids.length<=k->O k=none:=λk e=>by grind
 have o3:∀ k hd,O k=some hd->∃ id,ids[k]? =some id/\own id=some hd:=λk hd e=>by
  grind
 have inj:∀ i j id,ids[i]? =some id->ids[j]? =some id->i=j:=λi j id e1 U=>sd hn e1 U;have hB:∀ b,cH Fm O b↔cH F own b:=λb=>by
  constructor
  rintro ((W| ⟨id,hd,_,e,E⟩) | ⟨k,hd,e,E⟩);exact .inl W;exact .inr ⟨id,hd,e,E⟩;obtain⟨id,_,U⟩:=o3 k hd e;exact .inr ⟨id,hd,U,E⟩;rintro (W| ⟨id,hd,e,E⟩);exact .inl (.inl W);by_cases hm:id∈ids
  obtain⟨k,hk⟩:=ams hm;exact .inr ⟨k,hd,by grind,E⟩;exact .inl (.inr ⟨id,hd,hm,e,E⟩)
 have rn:Rn (inN ids) own O:=⟨λi j hd hm e=>⟨hd,by rw[o1 j i (pz ids i j hm)];exact e,.refl _⟩⟩;refine⟨Fm,O,⟨λk hd e=>?_,λb W=>?_,λk hd b e E=>?_,λi j hi hj b e1 U hb1 V=>?_,λk hd b e E=>?_,λk X=>?_⟩,hB,rn,λb=>ao6,o1,o2⟩;grind [rK]
 rcases W with W| ⟨id,hd,_,e,E⟩;exact Y.ao1 b W;exact Y.lt id hd b e E;obtain⟨id,e1,U⟩:=o3 k hd e;rintro (W| ⟨id',hd',hn',e',hbb'⟩);exact Y.apart id hd b U E W;exact hn' (Y.inj id' id hd' hd b e' U hbb' E▸alU e1);obtain⟨id1,q1,q2⟩:=o3 i hi e1;obtain⟨id2,q3,q4⟩:=o3 j hj U;have:=Y.inj id1 id2 hi hj b q2 q4 hb1 V;grind
 obtain⟨id,e1,U⟩:=o3 k hd e;exact Y.lt id hd b U E;have hk:∃ id,ids[k]? =some id/\ap (rK h ids) k=va (inN ids) (ap h id):=by
  grind [tL,rK,dx]
 obtain⟨id,hid,ho⟩:=hk;rw[ho]at X |-;rw[vo]at X;obtain⟨hd,e1,U⟩:=Y.obs id X;exact⟨hd,by grind,EM rn (λb hb V=>hb ((hB b).1 V)) (λb _ V=>(hB b).1 V) U⟩
theorem qK {ids:List Nat}{b k:Nat}(E:k<ids.length):ids[k]? =some (j6 ids b k):=by
 grind [j6,gu]
theorem uF {ids:List Nat}{b k:Nat}(E:ids.length<=k):j6 ids b k=b+(k - ids.length):=by
 grind [j6,gu]
theorem Uu (ids:List Nat)(b k:Nat):rH ids b k=some (j6 ids b k):=by
 grind [rH,j6]
theorem Sr{ids:List Nat}(U:ids.Nodup){b:Nat}(E:∀ id∈ids,id<b){i:Nat}(h:j6 ids b i=j6 ids b j):i=j:=by
 rcases amN i ids.length with hi|hi <;>rcases amN j ids.length with hj|hj;have O:=qK (b:=b) hi;have V:=qK (b:=b) hj;grind [sd]
 have O:=E _ (alU (qK (b:=b) hi));grind [uF];have O:=E _ (alU (qK (b:=b) hj));grind [uF];grind [uF]
theorem EN {ids:List Nat}(hn:ids.Nodup){b:Nat}(X:∀ id∈ids,id<b):∀ (E:List Ob) (h:List Ob) (k:Nat),b<=h.length->(ids.length<=k->h.length=b+(k - ids.length))->(k<ids.length->h.length=b)->
  (∀ i,k<=i->i<k+E.length->ap (mE ids b h k E) (j6 ids b i)=va (rH ids b) (ap E (i - k)))/\
  (∀ id,(∀ i,k<=i->i<k+E.length->j6 ids b i≠id)->ap (mE ids b h k E) id=ap h id)/\h.length<=(mE ids b h k E).length/\(∀ i,k<=i->i<k+E.length->j6 ids b i< (mE ids b h k E).length)
 | [],h,k,_,_,_=>⟨λi h1 h2=>by grind,λid _=>rfl,alJ _,λi h1 h2=>by grind⟩
 |o::r,h,k,hlen,hge,hlt=>by
  simp only[mE];have hstep:(cm h (j6 ids b k) (va (rH ids b) o)).length=(if k<ids.length then h.length else h.length+1)/\j6 ids b k< (cm h (j6 ids b k) (va (rH ids b) o)).length:=by
   rcases amN k ids.length with hk|hk;have:=X _ (alU (qK (b:=b) hk));simp_all [cA];simp_all [cA,uF]
  have O:b<=(cm h (j6 ids b k) (va (rH ids b) o)).length:=by grind
  obtain⟨q1,Y,q3,q4⟩:=EN hn X r (cm h (j6 ids b k) (va (rH ids b) o)) (k+1) O (λhk=>by
    grind) (λhk=>by grind)
  have W:∀ i,k+1<=i->j6 ids b i≠j6 ids b k:=λi hi e=>by grind [Sr]
  refine⟨λi h1 h2=>?_,λid U=>?_,alW (by grind) q3,λi h1 h2=>?_⟩;by_cases V:i=k
  subst V;rw[Y _ (λj hj _=>W j hj),dy,if_pos rfl,anI];rfl;rw[q1 i (by omega) (by grind),show i - k=(i - (k+1))+1 by omega];rfl;rw[Y id (λi h1 h2=>U i (by omega) (by simp;omega)),dy,if_neg (U k (alJ _) (by simp))];grind
theorem IB(hp:Hp F own w h){ids:List Nat}(hn:ids.Nodup)(aqs:∀ id∈ids,id<h.length){Fm:Nat->Prop}{om O:Own}(hpm:Hp Fm om w (rK h ids))(hB:∀ b,cH Fm om b↔cH F own b)(W:∀ b,Fm b↔(F b\/∃ id hd,id ∉ ids/\own id=some hd/\b∈hd.bs))(ho1:∀ k id,ids[k]? =some id->om k=own id)
  {h':List Ob} (V:Hp Fm O w' h') (fr:Fr { w:=w,own:=om} O w') (hlen:ids.length<=h'.length):
  ∃ A1,Hp F A1 w' (mE ids h.length h 0 h')/\Fr { w:=w,own:=own} A1 w'/\∀ s v,Rel Fm O w' s v->Rel F A1 w' (ren (rH ids h.length) 3 s) v:=by
 let L:=h.length
 let A1:Own:=λid=>match y4 id ids with|some k=>O k|none=>if L<=id then O (ids.length+(id - L))else own id
 have posN_of:∀ k id,ids[k]? =some id->y4 id ids=some k:=by
  intro k id e;cases hpn:y4 id ids with
  |none=>
   exfalso;have:∀ (l:List Nat),id∈l->y4 id l≠none:=by
    intro l;induction l with
    |nil=>grind
    |cons a r ih=>
     intro hm;simp only[y4];cases hb:Nat.beq a id with
     |true=>simp
     |false=>
      simp only[cond_false];have:id∈r:=by
       rcases alV.1 hm with e|e <;>simp_all
      simp_all
   grind
  |some j=>
   have X:=pz ids id j hpn;rw[sd hn e X]
 have b1:∀ k,A1 (j6 ids L k)=O k:=by
  intro k;rcases amN k ids.length with hk|hk;have:=posN_of k _ (qK (b:=L) hk);grind
  have hge:=uF (b:=L) hk;have hnone:y4 (j6 ids L k) ids=none:=by
   cases hpn:y4 (j6 ids L k) ids with
   |none=>rfl
   |some j=>
    have:=aqs _ (alU (pz ids _ j hpn));omega
  grind
 have b2:∀ id hd,A1 id=some hd->(∃ k,id=j6 ids L k/\O k=some hd)\/(id ∉ ids/\id<L/\own id=some hd):=by
  grind [pz,qK,uF,List.getElem?_of_mem]
 have b3:∀ id hd,id ∉ ids->own id=some hd->A1 id=some hd:=by
  intro id hd hm e;have hlt:=hp.dom id hd e;grind [pz]
 have hold:∀ b,b<w.heap.size->(¬ ∃ k hd,om k=some hd/\b∈hd.bs)->w'.heap[b]? =w.heap[b]?:=λb hb hn=>fr.block b ⟨hb,hn⟩;have omB:∀ k hd b,om k=some hd->b∈hd.bs->∃ id hd',own id=some hd'/\b∈hd'.bs:=λk hd b e E=>by
  rcases(hB b).1 (.inr ⟨k,hd,e,E⟩)with hf|ho;exact absurd ((W b).2 (.inl hf)) (hpm.apart k hd b e E);exact ho
 have fr2:Fr { w:=w,own:=own} A1 w':=by
  refine Fr.ap0 (λid hd e=>?_) (λid hd b e E=>?_) (λb hb U=>hold b hb λ⟨k,hd,e,E⟩ =>U (omB k hd b e E)) fr.size fr.os fr.tape fr.output;by_cases hm:id∈ids
  obtain⟨k,hk⟩:=ams hm;obtain⟨hd',Y,X⟩:=fr.ids k hd (by grind);grind
  exact⟨hd,b3 id hd hm e,.refl _⟩;rcases b2 id hd e with⟨k,hk,e⟩ | ⟨_,_,e⟩;rcases amN b w.heap.size with hlt|hge;left;have U:=fr.base k hd b e E;have:∃ k2 hd2,om k2=some hd2/\b∈hd2.bs:=amg λhc=>U ⟨hlt,hc⟩;grind
  omega;grind
 have rn:Rn (rH ids L) O A1:=⟨λi j hd hm e=>⟨hd,by
  grind [Uu],.refl _⟩⟩
 have k1:∀ b,¬cH Fm O b->¬cH F A1 b:=by
  rintro b U (hf| ⟨id,hd,e,E⟩);exact U (.inl ((W b).2 (.inl hf)));rcases b2 id hd e with⟨k,_,e⟩ | ⟨hm,_,e⟩;exact U (.inr ⟨k,hd,e,E⟩);exact U (.inl ((W b).2 (.inr ⟨id,hd,hm,e,E⟩)))
 have k2:∀ b,cH F A1 b->cH Fm O b:=by
  grind
 obtain⟨q1,q2,q3,q4⟩:=EN hn aqs h' h 0 (alJ _) (λhk=>by
   omega) (λ_=>rfl)
 refine⟨A1,⟨λid hd e=>?_,λb hf=>alT (hp.ao1 b hf) fr.size,λid hd b e E=>?_,λi j hi hj b Y X hb1 hb2=>?_,λid hd b e E=>?_,λid hdd=>?_⟩,fr2,λs v hr=>DM rn k1 3 s v hr⟩;rcases b2 id hd e with⟨k,hk,e⟩ | ⟨_,hlt,_⟩;rw[hk];exact q4 k (ame _) (by have:=V.dom k hd e;omega);omega;rcases b2 id hd e with⟨k,_,e⟩ | ⟨_,_,e⟩;exact λhf=>V.apart k hd b e E ((W b).2 (.inl hf));exact hp.apart id hd b e E;rcases b2 i hi Y with⟨ki,hki,Y⟩ | ⟨m1,_,Y⟩ <;>rcases b2 j hj X with⟨kj,hkj,X⟩ | ⟨m2,_,X⟩;rw[hki,hkj,V.inj ki kj hi hj b Y X hb1 hb2];exact absurd ((W b).2 (.inr ⟨j,hj,m2,X,hb2⟩)) (V.apart ki hi b Y hb1);exact absurd ((W b).2 (.inr ⟨i,hi,m1,Y,hb1⟩)) (V.apart kj hj b X hb2);exact hp.inj i j hi hj b Y X hb1 hb2;rcases b2 id hd e with⟨k,_,e⟩ | ⟨_,_,e⟩;exact V.lt k hd b e E;exact alT (hp.lt id hd b e E) fr.size;by_cases hk:∃ k,k<h'.length/\j6 ids L k=id
 obtain⟨k,hkl,rfl⟩:=hk;rw[q1 k (ame _) (by omega),Nat.sub_zero]at hdd |-;rw[vo]at hdd;obtain⟨hd,Y,X⟩:=V.obs k hdd;exact⟨hd,by grind,EM rn k1 (λb _=>k2 b) X⟩;have U:∀ i,0<=i->i<0+h'.length->j6 ids L i≠id:=λi _ hi e=>hk ⟨i,by omega,e⟩;rw[q2 id U]at hdd |-;obtain⟨hd,Y,X⟩:=hp.obs id hdd;have hm:id ∉ ids:=λhm=>by
  grind [List.getElem?_of_mem,qK]
 refine⟨hd,b3 id hd hm Y,X.carry (fr2.apS (F:=F)).apM fr.size λb E=>hold b (hp.lt id hd b Y E) ?_⟩;rintro⟨k,hd',e',hb'⟩;exact hpm.apart k hd' b e' hb' ((W b).2 (.inr ⟨id,hd,hm,Y,E⟩))
theorem Mj(hG:X2 P G)(hp:Hp F own w h){args:List SV}{vs:Array Value}(hr:apx F own w args vs){ids:List Nat}(hn:ids.Nodup){c:apd}(hc:G.o f (args.map (ren (inN ids) 6)) (rK h ids)=some c)(W:c.pre)(E:∀ id∈ids,id<h.length):
  (callFunc f vs).run P w=.ok (.enter f vs) w/\Calls P f vs w (λe w'=>∃ r A1,c.post r/\match c.res r with
   | .ret s h'=>(∃ u,e=.returned u/\Rel F A1 w' (ren (rH ids h.length) 3 s) u)/\Hp F A1 w' (mE ids h.length h 0 h')/\Fr { w:=w,own:=own} A1 w'
   | .pan x h'=>e=.panicked [{ v:=x,recovered:=false}]/\Hp F A1 w' (mE ids h.length h 0 h')/\Fr { w:=w,own:=own} A1 w'):=by
 refine⟨(hG.o f).enter _ _ c hc vs w,?_⟩;obtain⟨Fm,om,U,hB,rn,V,o1,o2⟩:=Yf hp ids hn;refine((hG.o f).calls _ _ c hc W Fm om w vs U ⟨by simpa using hr.1,λj s hj=>?_⟩).mono ?_;obtain⟨x,hx,rfl⟩:=k9 hj;exact DM rn (λb hb Y=>hb ((hB b).1 Y)) 6 x _ (hr.2 j x hx);rintro e w' ⟨r,bn,h1,h2⟩;have hml:(rK h ids).length=ids.length:=by simp[rK]
 cases O:c.res r with
 |ret s h'=>
  rw[O]at h2;obtain⟨⟨u,q1,q2⟩,X,q4,q5⟩:=h2;obtain⟨A1,k1,k2,k3⟩:=IB hp hn E U hB V o1 X q4 (by omega);exact⟨r,A1,h1,by grind⟩
 |pan x h'=>
  rw[O]at h2;obtain⟨q1,X,q4,q5⟩:=h2;obtain⟨A1,k1,k2,k3⟩:=IB hp hn E U hB V o1 X q4 (by omega);exact⟨r,A1,h1,by grind⟩
theorem Mk(hG:X2 P G)(O:Hp F own w h){id:Nat}{hd:Hd}(E:own id=some hd){args:List SV}{vs:Array Value}(hr:apx F own w args vs)(hnp:args.all (c8 3)=true){r:Res}(ho:ap h id=.ab r){c:aqo}(hc:G.y args r=some c)(hpre:c.pre):
  ZR P hd.v vs w (λe w'=>∃ a A1,c.post a/\e=.returned (.bool (c.res a).1)/\Hp F A1 w' (cm h id (.ab (c.res a).2))/\Fr { w:=w,own:=own} A1 w'):=by
 obtain⟨hd',e0,hv,hR⟩:=O.at ho rfl;rw[E]at e0;cases e0;have hlt:=O.dom id hd E;let F1:Nat->Prop:=λb=>cH F own b/\b ∉ hd.bs
 have hF1:∀ b,F1 b->b<w.heap.size:=by
  rintro b ⟨U| ⟨id',hd',e,hbb⟩,_⟩;exact O.ao1 b U;exact O.lt id' hd' b e hbb
 have hy:=hG.y args r c hc hpre F1 hd.bs w vs hR hF1 (λb hb=>⟨O.lt id hd b E hb,λU=>U.2 hb⟩) ⟨hr.1,λj s hj=>by
  rw[amc]at hnp;refine(hr.2 j s hj).aph (gb 3 s (hnp s (alU hj))) λb hb=>n8 ?_;rintro (U|hbb);exact hb U.1;exact hb (.inr ⟨id,hd,E,hbb⟩)⟩
 rw[hv];have mono:∀ (e:Ending) (w':World),(∃ a Y,c.post a/\e=.returned (.bool (c.res a).1)/\(c.res a).2.R F1 Y w'/\(c.res a).2.yv=r.yv/\YFr hd.bs Y w w')->∃ a A1,c.post a/\e=.returned (.bool (c.res a).1)/\Hp F A1 w' (cm h id (.ab (c.res a).2))/\Fr { w:=w,own:=own} A1 w':=by
  rintro e w' ⟨a,Y,h1,h2,h3,h4,X⟩;let hd2:Hd:= { hd with bs:=Y}
  have fr:Fr { w:=w,own:=own} (own.set id hd2) w':=Fr.ap0 (λi hi e=>by
    by_cases hii:i=id
    subst hii;rw[E]at e;cases e;exact⟨hd2,Own.apy _ _ _,rfl,rfl,rfl⟩;exact⟨hi,by grind [Own.apD],.refl _⟩) (λi hi b e hbb=>by
    by_cases hii:i=id
    subst hii;rw[Own.apy]at e;cases e;rcases(X.bs b hbb).2 with hb|hb <;>grind;grind [Own.apD]) (λb hb hn=>X.block b hb λV=>hn ⟨id,hd,E,V⟩) X.size X.os X.tape X.output
  refine⟨a,own.set id hd2,h1,h2,O.upd fr.apS (· =id) (by rw[cA,if_pos hlt];omega) (λi hi=>⟨Own.apD _ _ hi,by rw[dy,if_neg (λe=>hi e.symm)],λhd' b e hbb=>X.block b (O.lt i hd' b e hbb) λV=>hi (O.inj i id hd' hd b e E hbb V)⟩) (λi hd' hi e=>?_) (λi hi _=>?_),fr⟩;subst hi;rw[Own.apy]at e;cases e;refine⟨by simp_all [cA],λb hb=>⟨(X.bs b hb).1,λU=>?_,λj hj hne e W=>?_⟩⟩;rcases(X.bs b hb).2 with V|hge;exact O.apart _ hd b E V U;have:=O.ao1 b U;omega;rw[Own.apD _ _ hne]at e;rcases(X.bs b hb).2 with V|hge;exact hne (O.inj j _ hj hd b e E W V);have:=O.lt j hj b e W;omega;subst hi;refine⟨hd2,Own.apy _ _ _,?_⟩;rw[dy,if_pos rfl];refine⟨hv.trans h4.symm,(c.res a).2.loc _ _ _ w' w' h3 (alJ _) (λ_ _ _=>rfl) ?_⟩;rintro b _ ⟨U| ⟨j,hj,e,W⟩,hnb⟩;exact⟨.inl U,λV=>O.apart _ hd b E V U⟩;by_cases hji:j=i
  grind [Own.apy]
  rw[Own.apD _ _ hji]at e;exact⟨.inr ⟨j,hj,e,W⟩,λV=>hji (O.inj j _ hj hd b e E W V)⟩
 rcases hy with⟨f,as,q1,q2⟩ | ⟨l,f,tmps,as,bd,q1,q2,q3⟩;exact .inl ⟨f,as,q1,q2.mono mono⟩;exact .inr ⟨l,f,tmps,as,bd,q1,q2,λcc cs hro=>by
  obtain⟨e,w',hR',rest⟩:=q3 cc cs hro;simp_all <;>grind⟩
end
end Go.Sx
end
