/- Part of the proof that the law RefuseEither returns true and leaves its arguments as they were, for all arguments of bulk at most 1048576 (the Upto form). -/
import Derived.Test.YtaikmgjfkejlkaaGreatE103
import Derived.TacticsIn
import Derived.OrdersIn
set_option linter.all false
set_option maxHeartbeats 4000000
set_option maxRecDepth 100000
section
namespace Go.Sx
open Go.RowKit
section
variable {P:Program}{F:Nat->Prop}{own:Own}{w:World}{ts:Tis}
def So (v:Value)(vs:Array Value):Sem Next:=do
 let d <-Deferred.ofValue v vs
 invoke d.target d.args
variable {t:TypeId}
theorem Df(w:World)(m:Nat){e:TypeId}(E:Option Addr)(n c:Nat)(hd:P.underlying t=some (.slice e)):(Op.equalIn (m+1) t (.slice E n c) (.slice none 0 0)).run P w=.ok E.isNone w:=by
 cases E <;>simp[Op.equalIn,run_underlying hd]
def Me (P:Program)(F:Nat->Prop)(own:Own)(w:World)(h:List Ob)(run:Result Next):OR->Prop
 | .val s=>∃ u,run=.ok (.value u) w/\Rel F own w s u| .chk c s=>c->∃ u,run=.ok (.value u) w/\Rel F own w s u| .asm c s=>c/\∃ u,run=.ok (.value u) w/\Rel F own w s u| .apm s=>∃ u cs ty,run=.ok (.value u) (w.alloc (.cells cs ty))/\Rel F own (w.alloc (.cells cs ty)) s u| .eff c a ups s=>c->a/\∃ u ee w',(run=.ok (.value u) w'\/(run=.ok .skip w'/\u=undef))/\Rel F ee w' s u/\Step F own w (bf h ups) ee w'| .call f args=>∃ vs:Array Value,aoX F own w args vs/\run=(callFunc f vs).run P w| .yld id args=>∃ hd,own id=some hd/\∃ vs,aoX F own w args vs/\run=(So hd.v vs).run P w| .nxt id=>∃ hd b,own id=some hd/\hd.p=some b/\∃ ty,∀ u w',(Instr.next (.pointer (some ⟨b,0,none⟩)) false ty).run P w=.ok u w'->run=.ok (.value u) w'| .amb p=>∃ b,p b/\run=.ok (.value (.bool b)) w| .pan x=>run=.halt (.panic x) w| .bad=>True
theorem Mf {cx:Cx}{a:Act}(E:∀ x,Rel F own w (val cx x) (a.eval x)):∀ (l:List Operand),(dA cx l).length=l.length/\∀ (j:Nat) (s:SV),(dA cx l)[j]? =some s->∃ x,l[j]? =some x/\Rel F own w s (a.eval x)
 | [] =>⟨rfl,λj s h=>by simp[dA]at h⟩
 |x::r=>by
  obtain⟨h1,h2⟩:=Mf E r;grind [dA]
theorem uC {cx:Cx}{a:Act}(E:∀ x,Rel F own w (val cx x) (a.eval x))(l:Array Operand):aoX F own w (dA cx l.toList) (l.map a.eval):=by
 obtain⟨h1,h2⟩:=Mf E l.toList;refine⟨by simp[h1],λj s O=>?_⟩;simp_all <;>grind
theorem Bu {cx:Cx}{a:Act}(E:∀ x,Rel F own w (val cx x) (a.eval x)):∀ (l:List (Nat×Operand)),(iI cx l).map (·.1)=(l.map λ(i,x) =>(i,a.eval x)).map (·.1)/\
  ∀ (j:Nat) (x:Nat×SV) (y:Nat×Value),(iI cx l)[j]? =some x->(l.map λ(i,x) =>(i,a.eval x))[j]? =some y->Rel F own w x.2 y.2
 | [] =>⟨rfl,λj x y h=>by grind⟩
 |(i,x)::r=>by
  obtain⟨h1,h2⟩:=Bu E r;grind [iI]
variable {r:OR}
theorem ci{k:TI->OR}(E:ts.ok P)(h:aQ ts t k=r)(hr:r≠ .bad):∃ ti,jn P t=some ti/\k ti=r:=by
 unfold aQ at h;cases O:ts t with
 |none=>grind|some i=>simp[O]at h;exact⟨i,E t i O,h⟩
variable {h:List Ob}
theorem arA{E:Result Next}(O:r≠ .bad->Me P F own w h E r):Me P F own w h E r:=by
 cases r with
 |bad=>trivial
 |_=>exact O (by simp)
theorem afG {s:Sem Value}{u:Value}(h:s.run P w=.ok u w):(do pure (Next.value (<-s)):Sem Next).run P w=.ok (.value u) w:=by
 simp[h]
variable {a:Operand}
theorem Mg(h:Ee a=true):a=.const (.bool true):=by
 grind [Ee]
theorem J0(h:zQ a=true):a=.const (.bool false):=by
 grind [zQ]
theorem nZ{x:Option SV}(h:uq x=r)(hr:r≠ .bad):∃ s,x=some s/\r=.val s:=by
 cases x with
 |none=>exact absurd h.symm hr|some s=>exact⟨s,rfl,h.symm⟩
theorem uD{s:Sem Value}(E:CN F own w h (s.run P w) r):Me P F own w h ((do pure (Next.value (<-s)):Sem Next).run P w) r:=by
 obtain⟨c,a,ups,W,rfl,h1⟩:=E;intro hc;obtain⟨V,u,ee,w',h2,X,O⟩:=h1 hc;simp_all
theorem Mh{ti:TI}{s:SV}(e:qC ti h s=r)(hr:r≠ .bad):∃ s',r=.val s':=by
 have V:∀ {a:Bool} {n off:Nat} {o:Ob},zR a n off o=r->∃ s',r=.val s':=by
  intro a n off o e;unfold zR at e;split at e
  obtain⟨s',_,h'⟩:=nZ e hr;grind;grind
 have O:∀ {a:Bool} {n z id off:Nat} {i:Int} {o:Ob},Eg a n z id i off o=r->∃ s',r=.val s':=by
  intro a n z id off i o e;unfold Eg at e;split at e
  rename_i k l;cases W:Nat.beq z (aa k)with
  |false=>grind
  |true=>rw[W]at e;obtain⟨s',_,h'⟩:=nZ e hr;grind
  grind
  grind
 have E:∀ {a:Bool} {n z off:Nat} {i j:Int} {o:Ob},Bh a n z i j off o=r->∃ s',r=.val s':=by
  intro a n z off i j o e;unfold Bh at e;split at e
  rename_i k l;cases W:Nat.beq z (aa k)with
  |false=>grind
  |true=>rw[W]at e;obtain⟨s',_,h'⟩:=nZ e hr;grind
  grind
 unfold qC at e;split at e
 grind
 obtain⟨s',_,h'⟩:=nZ e hr;grind;exact O e;exact E e;grind
theorem OW{n:Nat}{s:SV}(e:Bi n s=r)(hr:r≠ .bad):∃ s',r=.val s':=by
 unfold Bi at e;grind
theorem Ae {cx:Cx}{a:Act}(E:∀ x,Rel F own w (val cx x) (a.eval x))(o:Option Operand):(∀ s,ot cx o=some s->∃ u,o.map a.eval=some u/\Rel F own w s u)/\(ot cx o=none->o.map a.eval=none):=by
 cases o with
 |none=>grind [ot]|some x=>grind [ot]
variable {l:List SV}
def QL(O:Hp F own w h){nx:Nat}(hn:apB own h nx){v:Value}{ty:TypeId}(E:aoX F own w l v.cells):Step F own w (bf h [(nx,Ob.cells l)]) (own.set nx ⟨some w.heap.size,undef,[],[w.heap.size]⟩) (w.alloc (.cells v.cells ty))/\Rel F (own.set nx ⟨some w.heap.size,undef,[],[w.heap.size]⟩) (w.alloc (.cells v.cells ty)) (.ptr nx 0) (.pointer (some ⟨w.heap.size,0,none⟩)):=
 ⟨uu O hn (w1:=w) ⟨rfl,rfl,rfl,rfl⟩ (.cells v.cells ty) (.cells l) _ rfl λee g=>⟨w.heap.size,v.cells,ty,rfl,rfl,kC _ _,E.1,λj s V=>(E.2 j s V).mono g⟩,.ptr (Own.aoY _ _ _) rfl⟩
theorem aoX.app{m:List SV}{E vs:Array Value}(h1:aoX F own w l E)(h2:aoX F own w m vs):aoX F own w (l++m) (E++vs):=by
 refine⟨by simp[h1.1,h2.1],λj s O=>?_⟩;rw[al2]at O;split at O
 rename_i hlt;rw[tN (j:=j) (ws:=E) (by rw[alq (by rw[h1.1];exact hlt)])];exact h1.2 j s O;rename_i hlt;rw[tN (j:=j - E.size) (ws:=vs) (by rw[amq (by rw[h1.1];omega)])];rw[h1.1];exact h2.2 _ s O
theorem OX{ops:List Oper}{g:Option (Nat×Bool)}{t:List (Nat×SV)}{nx:Nat}(E:ts.ok P)(hp:Hp F own w h)(hn:apB own h nx){a:Act}{o:Oper}
  (X:∀ x,Rel F own w (val ⟨ts,ops,g,⟨t,h⟩,nx⟩ x) (a.eval x))
  (hpk:∀ c x y,o.op=.pick c x y->(a.eval c=.bool true->Rel F own w (kA ops g c true (raw t x)) (a.eval x))/\(a.eval c=.bool false->Rel F own w (kA ops g c false (raw t y)) (a.eval y))):
  Me P F own w h ((execOp a.eval o).run P w) (opS ⟨ts,ops,g,⟨t,h⟩,nx⟩ o.op):=by
 obtain⟨dst,op,ty,pos,after,guard⟩:=o;simp only at hpk |-;refine arA λhr=>?_;generalize he:opS ⟨ts,ops,g,⟨t,h⟩,nx⟩ op=r at hr |-;cases op with
 |move x=>subst he;exact⟨_,rfl,X x⟩|assign x=>subst he;exact⟨_,rfl,X x⟩
 |pick c x y=>
  obtain⟨h1,h2⟩:=hpk c x y rfl;have hc:Rel F own w (bL ops g (raw t c)) (a.eval c):=X c;change Ef x y (bL ops g (raw t c)) (kA ops g c true (raw t x)) (kA ops g c false (raw t y))=r at he;unfold Ef at he;split at he
  rename_i sx sy sz bc bx bz hsc hsx hsy;rw[hsc]at hc;rw[hsx]at h1;rw[hsy]at h2;have hec:=cT hc;have W:(execOp a.eval { dst:=dst,op:=.pick c x y,type:=ty,pos:=pos,after:=after,guard:=guard}).run P w=.ok (.value (if bc then a.eval x else a.eval y)) w:=by
   simp[execOp,hec,asBool]
  cases hx:Ee x with
  |true=>
   simp only[hx,cond_true]at he;subst he;refine⟨_,W,?_⟩;have hx':=Mg hx;cases bc with
   |true=>simp only[if_true,hx'];exact .v _|false=>grind
  |false=>
   cases hy:zQ y with
   |true=>
    simp only[hx,hy,cond_true,cond_false]at he;subst he;refine⟨_,W,?_⟩;have hy':=J0 hy;cases bc with
    |true=>grind
    |false=>rw[if_neg (by simp),hy'];exact .v _
   |false=>grind
  rename_i sx sy sz bc bz hsc hsx hsy;rw[hsc]at hc;rw[hsy]at h2;have hec:=cT hc;subst he;intro hcf;simp_all [execOp,asBool];rename_i sx sy sz bc bx hsc hsx hsy;rw[hsc]at hc;rw[hsx]at h1;have hec:=cT hc;subst he;intro hcf;simp_all [execOp,asBool];grind
 |alloc O=>
  obtain⟨ti,Y,he⟩:=ci (k:=λti=>JB nx (some ti.zero)) E he hr;subst he;obtain⟨i,d,z,hi,hd,hz,hq,rfl⟩:=bY Y;have hzz:(dP P O i d).zero=svs z:=by simp[dP,hz]
  intro _;obtain⟨q1,q2⟩:=QL (ty:=O) hp hn (l:=svs z) (v:=z) (xM z);rw[hzz];exact⟨trivial,_,_,_,.inl (by simp[execOp,Instr.alloc,zeroValue,typeInfo,hi,hz,newVar,newRow]),q2,q1⟩
 |box O x=>
  change JB nx (ph (val _ x))=r at he;cases hf:ph (val ⟨ts,ops,g,⟨t,h⟩,nx⟩ x)with
  |none=>rw[hf]at he;exact absurd he.symm hr
  |some l=>
   rw[hf]at he;subst he;intro _;obtain⟨q1,q2⟩:=QL (ty:=O) hp hn (v:=a.eval x) (EA (X x) hf);exact⟨trivial,_,_,_,.inl (by rfl),q2,q1⟩
 |build O V=>
  obtain⟨ti,Y,he⟩:=ci (k:=λti=>bif ti.apo then aQ ts ti.elem λte=>Ou (lH (λi=>some (i*te.size,te.size)) ti.zero (iI ⟨ts,ops,g,⟨t,h⟩,nx⟩ V.toList))
   else bif ti.agg then Ou (lH (λi=>(nth ti.fields i).map λf:Nat×Nat×Bool=>(f.1,f.2.1)) ti.zero (iI ⟨ts,ops,g,⟨t,h⟩,nx⟩ V.toList))else .bad) E he hr
  obtain⟨p1,p2⟩:=Bu X V.toList;have W:(execOp a.eval { dst:=dst,op:=.build O V,type:=ty,pos:=pos,after:=after,guard:=guard})=(do pure (Next.value (<-Instr.build O (V.map λ(i,x) =>(i,a.eval x))))):=rfl;have key:∃ l,r=.val (.agg l)/\((ti.apo=true/\∃ te,jn P ti.elem=some te/\lH (λi=>some (i*te.size,te.size)) ti.zero (iI ⟨ts,ops,g,⟨t,h⟩,nx⟩ V.toList)=some l)\/
     (ti.apo=false/\ti.agg=true/\lH (λi=>(nth ti.fields i).map λf=>(f.1,f.2.1)) ti.zero (iI ⟨ts,ops,g,⟨t,h⟩,nx⟩ V.toList)=some l)):=by
   cases ha:ti.apo with
   |true=>
    simp only[ha,cond_true]at he;obtain⟨te,hte,he⟩:=ci E he hr;cases hf:lH (λi=>some (i*te.size,te.size)) ti.zero (iI ⟨ts,ops,g,⟨t,h⟩,nx⟩ V.toList)with
    |none=>simp only[hf]at he;exact absurd he.symm hr|some l=>simp only[hf]at he;exact⟨l,he.symm,.inl ⟨rfl,te,hte,hf⟩⟩
   |false=>
    cases hg:ti.agg with
    |false=>grind
    |true=>
     simp only[ha,hg,cond_false,cond_true]at he;cases hf:lH (λi=>(nth ti.fields i).map λf=>(f.1,f.2.1)) ti.zero (iI ⟨ts,ops,g,⟨t,h⟩,nx⟩ V.toList)with
     |none=>simp only[hf]at he;exact absurd he.symm hr|some l=>simp only[hf]at he;exact⟨l,he.symm,.inr ⟨rfl,rfl,rfl⟩⟩
  obtain⟨l,rfl,hcase⟩:=key;obtain⟨u,e1,e2⟩:=T9 (P:=P) Y (vps:=V.map λ(i,x) =>(i,a.eval x)) (by simpa using p1) (by simpa using p2) hcase;exact⟨u,by simp_all,e2⟩
 |buildSlice O n V=>
  obtain⟨ti,Y,he⟩:=ci (k:=λti=>aQ ts ti.elem λte=>Hi (JD O ops g) nx te (bsS ti te n (iI ⟨ts,ops,g,⟨t,h⟩,nx⟩ V.toList))) E he hr;obtain⟨te,hte,he⟩:=ci (k:=λte=>Hi (JD O ops g) nx te (bsS ti te n (iI ⟨ts,ops,g,⟨t,h⟩,nx⟩ V.toList))) E he hr;obtain⟨p1,p2⟩:=Bu X V.toList;have hne:bsS ti te n (iI ⟨ts,ops,g,⟨t,h⟩,nx⟩ V.toList)≠ .bad:=λe=>by rw[e]at he;exact hr he.symm
  obtain⟨s,cs,ty2,u,hs0,e1,e2,e3⟩:=aaT (P:=P) hp Y hte (n:=n) (vps:=V.map λ(i,x) =>(i,a.eval x)) (by simpa using p1) (by grind) rfl hne;rw[hs0]at he;have plain:r=.apm s->Me P F own w h ((execOp a.eval ⟨dst,.buildSlice O n V,ty,pos,after,guard⟩).run P w) r:=λe=>by
   subst e;exact⟨u,cs,ty2,by simp[execOp,e1],e2⟩
  cases s with
  |rs k xs=>
   change (bif(te.agg||one xs)&&noG (JD O ops g)then OR.eff True True [(nx,.row k xs)] (.os nx)else .apm (.rs k xs))=r at he;cases hb:(te.agg||one xs)&&noG (JD O ops g)with
   |false=>grind
   |true=>
    rw[hb]at he;subst he;obtain⟨m1,m2,m3,m4⟩:=e3 k xs rfl;refine λ_=>⟨trivial,u,own.set nx ⟨none,.slice (some ⟨w.heap.size,0,none⟩) xs.length xs.length,[],[w.heap.size]⟩,w.alloc (.cells cs ty2),.inl (by simp[execOp,e1]),?_,?_⟩;rw[m1];exact Rel.os (F:=F) (id:=nx) (hd:=⟨none,.slice (some ⟨w.heap.size,0,none⟩) xs.length xs.length,[],[w.heap.size]⟩) (Own.aoY _ _ _) rfl;exact uu hp hn (w1:=w) ⟨rfl,rfl,rfl,rfl⟩ _ _ _ rfl λee g=>.inr ⟨w.heap.size,0,xs.length,cs,ty2,rfl,rfl,kC _ _,by omega,ak2 _,m3,λq x hx j s hj=>by
     obtain⟨u',h1,h2⟩:=m4 q x hx j s hj;exact⟨u',h1,h2.mono g⟩⟩
  |_=>exact plain he.symm
 |load O x=>
  obtain⟨ti,Y,he⟩:=ci (k:=λti=>qC ti h (val ⟨ts,ops,g,⟨t,h⟩,nx⟩ x)) E he hr;obtain⟨s',rfl⟩:=Mh he hr;obtain⟨u,e1,e2⟩:=L1 (P:=P) hp Y (X x) he;exact⟨u,by simp_all [execOp],e2⟩
 |store O x y=>
  obtain⟨ti,Y,he⟩:=ci (k:=λti=>rg ti.size nx h (val ⟨ts,ops,g,⟨t,h⟩,nx⟩ x) (val ⟨ts,ops,g,⟨t,h⟩,nx⟩ y)) E he hr;obtain⟨ups,ee,w',rfl,e1,e2⟩:=Sn (P:=P) hp hn Y (X x) (X y) he hr;exact λ_=>⟨trivial,undef,ee,w',.inr ⟨by simp[execOp,e1],rfl⟩,.any _,e2⟩
 |nilCheck x=>
  have hx:=X x;change TH (val _ x)=r at he;generalize hvx:a.eval x=vx at hx;unfold TH at he;split at he
  rename_i id off hs;subst he;rw[hs]at hx;cases hx with
  |ptr q1 q2=>exact⟨_,by simp[execOp,hvx],.ptr q1 q2⟩
  rename_i l off hs;subst he;rw[hs]at hx;cases hx with
  |ep cf q1 q2=>exact⟨_,by simp[execOp,hvx],.ep cf q1 q2⟩
  rename_i hs;subst he;rw[hs]at hx;cases hx with
  |rp q1 q2 q3=>exact⟨_,by simp[execOp,hvx],.rp q1 q2 q3⟩
  rename_i hs;subst he;rw[hs]at hx;cases hx with
  |gp q1 q2 q3=>exact⟨_,by simp[execOp,hvx],.gp q1 q2 q3⟩
  rename_i f first caps hs
  subst he;rw[hs]at hx;cases hx with
  |fn q1 q2 q3 q4=>exact⟨_,by simp[execOp,hvx],.fn q1 q2 q3 q4⟩
  grind
 |binOp op xt x y yt=>
  change Jx ts op xt (val _ x) (val _ y)=r at he;have hx:=X x;have hy:=X y;generalize val ⟨ts,ops,g,⟨t,h⟩,nx⟩ x=sx at hx he;generalize val ⟨ts,ops,g,⟨t,h⟩,nx⟩ y=sy at hy he;have W:∀ {vx vy:Value},a.eval x=vx->a.eval y=vy->(eqGuard op xt x y vx vy).run P w=.ok () w->∀ u,(Go.binOp op xt vx vy).run P w=.ok u w->(execOp a.eval { dst:=dst,op:=.binOp op xt x y yt,type:=ty,pos:=pos,after:=after,guard:=guard}).run P w=.ok (.value u) w:=by
   simp_all [execOp]
  unfold Jx at he;split at he
  rename_i k m k' n;obtain⟨hsk,h3⟩:=OD he hr;have ex:=cT hx;have ey:=cT hy;cases r with
  |val s=>
   obtain⟨u,e1,rfl⟩:=R6 (P:=P) (w:=w) (ty:=xt) hsk h3.symm;exact⟨u,W ex ey (CI ..) u e1,.v u⟩
  |chk c s=>
   intro hc;obtain⟨u,e1,rfl⟩:=R7 (P:=P) (w:=w) (ty:=xt) hsk h3.symm hc;exact⟨u,W ex ey (CI ..) u e1,.v u⟩
  |bad=>grind|_=>exfalso;cases op <;>simp[uo]at h3
  obtain⟨ti,Y,he⟩:=ci (k:=λti=>eqS op ti sx sy) E he hr;obtain⟨i,d,z,hi,hd,hz,hq,rfl⟩:=bY Y;unfold eqS at he;split at he
  rename_i l _ _;have ey:=cT hy;cases hb:(dP P xt i d).isSlice with
  |false=>grind
  |true=>
   rw[hb]at he;simp only[cond_true]at he;have hds:∃ e,d=.slice e:=by cases d <;>simp[dP]at hb;grind
   obtain⟨e,rfl⟩:=hds;have hg:∀ (ad:Option Addr) (n c:Nat),(eqGuard op xt x y (.slice ad n c) (.slice none 0 0)).run P w=.ok () w:=λad n c=>by simp_all [eqGuard]
   have hq:∀ (ad:Option Addr) (n c:Nat),(Op.equal xt (.slice ad n c) (.slice none 0 0)).run P w=.ok ad.isNone w:=λad n c=>by
    grind [Df,Op.equal,Op.maxDepth]
   have hsl:∃ ad n c,a.eval x=.slice ad n c/\(ad.isNone=true->l=[]):=by
    generalize a.eval x=vx at hx;cases hx <;>grind
   obtain⟨ad,n,c,hvx,hl⟩:=hsl;cases op <;>simp only[XD]at he <;>first|exact absurd he.symm hr|subst he
   exact⟨ad.isNone,hl,W hvx ey (hg _ _ _) _ (by simp[Go.binOp,hq])⟩;exact⟨!ad.isNone,λh=>hl (by simpa using h),W hvx ey (hg _ _ _) _ (by simp[Go.binOp,hq])⟩
  rename_i b1 b2 _ _;have ex:=cT hx;have ey:=cT hy;have hg:(eqGuard op xt x y (.string b1) (.string b2)).run P w=.ok () w:=by simp_all [eqGuard]
  cases hb:Nat.beq (dP P xt i d).sc 2 with
  |false=>grind
  |true=>
   rw[hb]at he;simp only[cond_true]at he;cases op <;>simp only[Qs]at he <;>first|exact absurd he.symm hr|subst he
   exact⟨_,W ex ey hg _ (by simp[Go.binOp,Op.stringOp,beq_toListBytes,bne]),.v _⟩;exact⟨_,W ex ey hg _ (by simp[Go.binOp,Op.stringOp,beq_toListBytes,bne]),.v _⟩
  rename_i b1 b2 _ _;have ex:=cT hx;have ey:=cT hy;have hg:(eqGuard op xt x y (.bool b1) (.bool b2)).run P w=.ok () w:=by simp_all [eqGuard]
  cases hb:Nat.beq (dP P xt i d).sc 3 with
  |false=>grind
  |true=>
   rw[hb]at he;simp only[cond_true]at he;have hc:=ak0 hb;have hdb:d=.bool:=by cases d <;>simp[dP,cC]at hc <;>rfl
   subst hdb;have heq:(Op.equal xt (.bool b1) (.bool b2)).run P w=.ok (b1==b2) w:=by unfold Op.equal Op.maxDepth;exact run_equalIn_bool' w 9999 xt b1 b2 hd
   cases op <;>simp only[Jw]at he <;>first|exact absurd he.symm hr|subst he
   exact⟨_,W ex ey hg _ (by simp[Go.binOp,heq]),.v _⟩;exact⟨_,W ex ey hg _ (by simp[Go.binOp,heq,bne]),.v _⟩
  rename_i l m _ _;obtain⟨xs,ex,hxs⟩:=tP hx;obtain⟨ys,ey,hys⟩:=tP hy;unfold eqT aaz at he;split at he
  grind
  rename_i c cs hcs;have hcs':TF P xt d=c::cs:=hcs;cases hl:eqL (c::cs) l m with
  |none=>rw[hl]at he;exact absurd he.symm hr
  |some b=>
   rw[hl]at he;have hany:(Op.equal xt (.agg xs) (.agg ys)).run P w=.ok b w/\P.eqGuardType P.depth xt=false:=by
    grind [Si,Mb,TF]
   obtain⟨q1,q2⟩:=hany;have hg:(eqGuard op xt x y (.agg xs) (.agg ys)).run P w=.ok () w:=run_eqGuard_agg w op xt x y xs ys q2;cases op <;>simp only[eqO]at he <;>first|exact absurd he.symm hr|subst he
   exact⟨_,W ex ey hg _ (by simp[Go.binOp,q1]),.v _⟩;exact⟨_,W ex ey hg _ (by simp[Go.binOp,q1]),.v _⟩
  grind
 |unOp op xt x=>
  change unS op (val _ x)=r at he;have hx:=X x;unfold unS at he;split at he
  rename_i b hs;subst he;rw[hs]at hx;have ex:=cT hx;exact⟨_,by simp only[execOp,ex];rfl,.v _⟩;rename_i k n hs;subst he;rw[hs]at hx;have ex:=cT hx;exact⟨_,by simp only[execOp,ex];rfl,.v _⟩;grind
 |convert src dt x=>
  obtain⟨t1,ht1,he⟩:=ci (k:=λ_=>aQ ts dt λti=>LQ ti.int (val ⟨ts,ops,g,⟨t,h⟩,nx⟩ x)) E he hr;obtain⟨t2,ht2,he⟩:=ci E he hr;obtain⟨i1,d1,z1,hi1,hd1,hz1,hq1,rfl⟩:=bY ht1;obtain⟨i2,d2,z2,hi2,hd2,hz2,hq2,rfl⟩:=bY ht2;have hx:=X x;unfold LQ at he;split at he
  rename_i kd k' n hk hs;subst he;rw[hs]at hx;have ex:=cT hx;cases d2 <;>simp[dP]at hk;subst hk;refine⟨_,?_,.v _⟩;simp_all [execOp,Go.convert,run_underlying,Conv.intToInt];grind
 |panic x=>
  change TP (val _ x)=r at he;have hx:=X x;unfold TP at he;split at he
  rename_i t' y hs;subst he;rw[hs]at hx;have ex:=cT hx;simp only[Me,execOp,ex];rfl;grind
 |makeInterface O x=>
  obtain⟨ti,Y,he⟩:=ci (k:=λti=>bif ti.iface then .bad else Ei O (val ⟨ts,ops,g,⟨t,h⟩,nx⟩ x)) E he hr;obtain⟨i,d,z,hi,hd,hz,hq,rfl⟩:=bY Y;have hx:=X x;cases hif:(dP P O i d).iface with
  |true=>grind
  |false=>
   simp only[hif,cond_false]at he;unfold Ei at he;split at he
   rename_i k n hs;subst he;rw[hs]at hx;have ex:=cT hx;refine⟨_,?_,.v _⟩;simp only[execOp,ex];apply afG;cases d <;>simp[dP]at hif <;>simp[Instr.makeInterface,run_underlying hd];grind
 |makeFunc fn first caps=>
  change LU fn (dA _ first.toList) (dA _ caps.toList)=r at he;unfold LU at he;split at he
  rename_i f;subst he;obtain⟨q1,q2⟩:=uC X caps;obtain⟨q3,q4⟩:=uC X first
  exact⟨.func (.func f) (first.map a.eval) (caps.map a.eval),by rfl,.fn q3 q1 q4 q2⟩;grind
 |fieldAddr O x f=>
  obtain⟨ti,Y,he⟩:=ci (k:=λti=>match nth ti.fields f with|some (o,n,_) =>bif Nat.ble 1 n then Bi o (val ⟨ts,ops,g,⟨t,h⟩,nx⟩ x)else .bad|none=>.bad) E he hr;cases hf:nth ti.fields f with
  |none=>grind
  |some q=>
   obtain⟨o,n,q⟩:=q;simp only[hf]at he;cases hn:Nat.ble 1 n with
   |false=>grind
   |true=>
    simp only[hn,cond_true]at he;obtain⟨s',rfl⟩:=OW he hr;obtain⟨u,e1,e2⟩:=JQ (P:=P) Y hf (nbl hn) (X x) he;exact⟨u,by simp_all [execOp],e2⟩
 |field O x f=>
  obtain⟨ti,Y,he⟩:=ci (k:=λti=>sr (nth ti.fields f) (zP (val ⟨ts,ops,g,⟨t,h⟩,nx⟩ x))) E he hr;have hsh:∃ s',r=.val s':=by
   unfold sr at he;split at he
   obtain⟨s',_,e⟩:=nZ he hr;grind;grind
  obtain⟨s',rfl⟩:=hsh;obtain⟨u,e1,e2⟩:=RZ (P:=P) Y (X x) he;exact⟨u,by simp_all [execOp],e2⟩
 |indexAddr O x i=>
  obtain⟨ti,Y,he⟩:=ci (k:=λti=>aQ ts ti.elem λte=>ip ti te.size h (val ⟨ts,ops,g,⟨t,h⟩,nx⟩ x) (val ⟨ts,ops,g,⟨t,h⟩,nx⟩ i)) E he hr;obtain⟨te,hte,he⟩:=ci E he hr;obtain⟨c,s',rfl,hc⟩:=R5 (P:=P) hp Y hte (X x) (X i) he hr;intro hcc;obtain⟨u,e1,e2⟩:=hc hcc;simp_all [execOp]
 |extract x i=>
  have hx:=X x;change TO i (val _ x)=r at he;generalize hvx:a.eval x=vx at hx;unfold TO at he;split at he
  rename_i l hs;rw[hs]at hx;obtain⟨s',e1,rfl⟩:=nZ he hr;rw[gC]at e1;cases hx with
  |tup q1 q2=>
   rename_i vs;have hlt:i<vs.size:=by grind
   have:=q2 i s' e1;simp only[alw,amA hlt,anf]at this;exact⟨vs[i],by simp[execOp,hvx,Instr.extract,hlt],this⟩
  grind
 |makeSlice O n c=>
  obtain⟨ti,Y,he⟩:=ci (k:=λti=>aQ ts ti.elem λte=>bif ti.isSlice then(bif te.isSlice then aQ ts te.elem λtr=>Hj nx te tr (val ⟨ts,ops,g,⟨t,h⟩,nx⟩ n) (val ⟨ts,ops,g,⟨t,h⟩,nx⟩ c)else mkS nx te (val ⟨ts,ops,g,⟨t,h⟩,nx⟩ n) (val ⟨ts,ops,g,⟨t,h⟩,nx⟩ c))else .bad) E he hr;obtain⟨te,hte,he⟩:=ci E he hr;cases hs:ti.isSlice with
  |false=>grind
  |true=>
   rw[hs]at he;simp only[cond_true]at he;cases hs2:te.isSlice with
   |true=>
    rw[hs2]at he;obtain⟨tr,htr,he⟩:=ci (k:=λtr=>Hj nx te tr (val ⟨ts,ops,g,⟨t,h⟩,nx⟩ n) (val ⟨ts,ops,g,⟨t,h⟩,nx⟩ c)) E he hr;exact uD (X3 (P:=P) hp hn Y hte hs (X n) (X c) he hr)
   |false=>
    rw[hs2]at he;exact uD (aaW (P:=P) hp hn Y hte hs (X n) (X c) he hr)
 |slice O x lo hi mx=>
  cases mx with
  |some m=>
   obtain⟨ti,Y,he⟩:=ci (k:=λti=>aQ ts ti.elem λ_=>El ti (ot ⟨ts,ops,g,⟨t,h⟩,nx⟩ lo) (ot ⟨ts,ops,g,⟨t,h⟩,nx⟩ hi) (val ⟨ts,ops,g,⟨t,h⟩,nx⟩ m) (val ⟨ts,ops,g,⟨t,h⟩,nx⟩ x)) E he hr;obtain⟨te,hte,he⟩:=ci E he hr;obtain⟨_,l2⟩:=Ae X lo;obtain⟨l3,_⟩:=Ae X hi;obtain⟨c,s',hc,h1⟩:=Uh (P:=P) Y hte (X x) (X m) l2 l3 he hr;rcases hc with⟨rfl,hc⟩ |rfl;obtain⟨u,e1,e2⟩:=h1 hc;exact⟨u,by simp_all [execOp],e2⟩;intro hcc;obtain⟨u,e1,e2⟩:=h1 hcc;simp_all [execOp]
  |none=>
  obtain⟨ti,Y,he⟩:=ci (k:=λti=>aQ ts ti.elem λte=>mN ti te.size nx h (ot ⟨ts,ops,g,⟨t,h⟩,nx⟩ lo) (ot ⟨ts,ops,g,⟨t,h⟩,nx⟩ hi) (In hi&&LS ops) (val ⟨ts,ops,g,⟨t,h⟩,nx⟩ x)) E he hr;obtain⟨te,hte,he⟩:=ci E he hr;obtain⟨l1,l2⟩:=Ae X lo;obtain⟨l3,l4⟩:=Ae X hi;rcases Sk (P:=P) hp hn Y hte (X x) l1 l2 l3 l4 (λq=>by cases hi with|none=>rfl|some _=>simp[In]at q) he hr with⟨c,s',rfl,hc⟩ |he;intro hcc;obtain⟨u,e1,e2⟩:=hc hcc;simp_all [execOp];exact uD he
 |makeMap O rs=>
  cases rs with
  |some _=>exact absurd he.symm hr
  |none=>
  obtain⟨ti,Y,he⟩:=ci (k:=λti=>mmR nx ti.mkt ti.mvt) E he hr;unfold mmR at he;split at he
  rename_i kk vk hk hv';subst he;intro _;refine⟨trivial,.map (some w.heap.size),own.set nx ⟨none,.map (some w.heap.size),[],[w.heap.size]⟩,w.alloc (.map #[] 0),.inl (by rfl),?_,?_⟩;have:=Rel.os (F:=F) (own:=own.set nx ⟨none,.map (some w.heap.size),[],[w.heap.size]⟩) (w:=w.alloc (.map #[] 0)) (Own.aoY _ _ _) rfl;exact this;exact uu hp hn (w1:=w) ⟨rfl,rfl,rfl,rfl⟩ _ _ _ rfl λee g=>⟨w.heap.size,#[],0,rfl,rfl,kC _ _,⟨rfl,λi x hx=>by simp[eI]at hx⟩,⟨by simp[kD],λn hn=>by simp[kD]at hn⟩,trivial⟩;grind
 |lookup O m k ok=>
  obtain⟨ti,Y,he⟩:=ci (k:=λti=>tI ti h ok (val ⟨ts,ops,g,⟨t,h⟩,nx⟩ k) (val ⟨ts,ops,g,⟨t,h⟩,nx⟩ m)) E he hr;obtain⟨s',rfl,u,e1,e2⟩:=Uj (P:=P) hp Y (X m) (X k) he hr;exact⟨u,by simp_all [execOp],e2⟩
 |mapUpdate O m k v=>
  obtain⟨ti,Y,he⟩:=ci (k:=λti=>Dd ti h (val ⟨ts,ops,g,⟨t,h⟩,nx⟩ k) (val ⟨ts,ops,g,⟨t,h⟩,nx⟩ v) (val ⟨ts,ops,g,⟨t,h⟩,nx⟩ m)) E he hr;obtain⟨ups,rfl,w',e1,e2⟩:=QK (P:=P) hp Y (X m) (X k) (X v) he hr;exact λ_=>⟨trivial,undef,own,w',.inr ⟨by simp[execOp,e1],rfl⟩,.any _,e2⟩
 |insert O m k v=>
  obtain⟨ti,Y,he⟩:=ci (k:=λti=>Dd ti h (val ⟨ts,ops,g,⟨t,h⟩,nx⟩ k) (val ⟨ts,ops,g,⟨t,h⟩,nx⟩ v) (val ⟨ts,ops,g,⟨t,h⟩,nx⟩ m)) E he hr;obtain⟨ups,rfl,w',e1,e2⟩:=QK (P:=P) hp Y (X m) (X k) (X v) he hr;exact λ_=>⟨trivial,undef,own,w',.inr ⟨by simp[execOp,e1],rfl⟩,.any _,e2⟩
 |mapEntry O m k=>
  obtain⟨ti,Y,he⟩:=ci (k:=λti=>yi ti nx h (val ⟨ts,ops,g,⟨t,h⟩,nx⟩ k) (val ⟨ts,ops,g,⟨t,h⟩,nx⟩ m)) E he hr;exact uD (XZ (P:=P) hp hn Y (X m) (X k) he hr)
 |entryStore O m s v=>
  obtain⟨ti,Y,he⟩:=ci (k:=λti=>JG ti h (val ⟨ts,ops,g,⟨t,h⟩,nx⟩ v) (val ⟨ts,ops,g,⟨t,h⟩,nx⟩ m) (val ⟨ts,ops,g,⟨t,h⟩,nx⟩ s)) E he hr;obtain⟨c,ups,rfl,hc⟩:=X0 (P:=P) hp Y (X m) (X s) (X v) he hr;intro hcc;obtain⟨w',e1,e2⟩:=hc hcc;exact⟨trivial,undef,own,w',.inr ⟨by simp[execOp,e1],rfl⟩,.any _,e2⟩
 |typeAssert x xt O ok=>
  obtain⟨ti,Y,he⟩:=ci (k:=λti=>taS O ok ti (val ⟨ts,ops,g,⟨t,h⟩,nx⟩ x)) E he hr;obtain⟨i,d,z,hi,hd,hz,hq,rfl⟩:=bY Y;have hx:=X x;unfold taS at he;split at he
  rename_i t' y hs;rw[hs]at hx;have ex:=cT hx;cases hif:(dP P O i d).iface with
  |true=>grind
  |false=>
   rw[hif]at he;simp only[cond_false]at he;cases hb:Nat.beq t' O with
   |false=>grind
   |true=>
    rw[hb]at he;simp only[cond_true]at he;have htt:=ak0 hb;have hrr:r=(bif ok then .val (.tup [.v y,.b true])else .val (.v y)):=he.symm;subst htt;have W:(Instr.typeAssert (.iface t' y) xt t' ok).run P w=.ok (if ok then .tuple #[y,.bool true]else y) w:=by
     cases d <;>simp[dP]at hif <;>cases ok <;>simp[Instr.typeAssert,run_underlying hd]
    rw[hrr];clear hrr;cases ok with
    |false=>exact⟨y,by simp_all [execOp],.v _⟩
    |true=>
     refine⟨.tuple #[y,.bool true],by simp_all [execOp],.tup rfl λj s hj=>?_⟩;cases j with
     |zero=>simp at hj;subst hj;exact .v _
     |succ j=>
      cases j with
      |zero=>simp at hj;subst hj;exact .v _|succ j=>simp at hj
  grind
 |call c=>
  obtain⟨callee,args,tys⟩:=c;cases callee with
  |value f=>
   have hf:=X f;change zS (dA _ args.toList) (val _ f)=r at he;generalize hvf:a.eval f=vf at hf;unfold zS at he;split at he
   rename_i fid first caps hs
   subst he;rw[hs]at hf;cases hf with
   |fn q1 q2 q3 q4=>
    rename_i us vs;obtain⟨p1,p2⟩:=uC X args;refine⟨us++args.map a.eval++vs,aoX.app (aoX.app ⟨q1,q3⟩ ⟨p1,p2⟩) ⟨q2,q4⟩,?_⟩;simp[execOp,resolve,hvf,Deferred.ofValue,invoke]
   rename_i id hs;subst he;rw[hs]at hf;obtain⟨hd,h1,rfl,h2⟩:=iz hf;exact⟨hd,h1,args.map a.eval,uC X args,by simp[execOp,resolve,hvf,So]⟩;grind
  |invoke f m=>exact absurd he.symm hr
  |builtin b=>
   obtain⟨p1,p2⟩:=uC X args;have W:∀ (b:Builtin),(execOp a.eval { dst:=dst,op:=.call ⟨.builtin b,args,tys⟩,type:=ty,pos:=pos,after:=after,guard:=guard})=builtin b tys ty (args.map λ| .const _=>true|_=>false) (args.map a.eval):=λb=>rfl;cases b <;>first|(exact absurd he.symm hr) |skip
   ·
    change (match tys.toList with| [t',t2] =>aQ ts t' λti=>aQ ts t2 λti2=>aQ ts ti.elem λte=>bif ti.isSlice&&ti2.isSlice then mv te nx h (dA _ args.toList)else .bad|_=>.bad)=r at he;split at he
    rename_i t' t2 htys;obtain⟨ti,Y,he⟩:=ci E he hr;obtain⟨ti2,ht2,he⟩:=ci E he hr;obtain⟨te,hte,he⟩:=ci E he hr;cases hs:ti.isSlice&&ti2.isSlice with
    |false=>grind
    |true=>
     rw[hs]at he;rw[akZ]at hs;have htys':tys= #[t',t2]:=by grind
     have:=XW (P:=P) (ty:=ty) hp hn Y ht2 hte hs.1 hs.2 ⟨p1,p2⟩ he hr;grind [uD,builtin]
    grind
   ·
    change (match tys.toList with| [t'] =>aQ ts t' λti=>aQ ts ti.elem λte=>y5 ti te h (dA _ args.toList) |_=>.bad)=r at he;split at he
    rename_i t' htys;obtain⟨ti,Y,he⟩:=ci E he hr;obtain⟨te,hte,he⟩:=ci E he hr;have htys':tys= #[t']:=by grind
    have:=X4 (P:=P) hp Y hte ⟨p1,p2⟩ he hr ty;grind [uD,builtin]
    grind
   ·
    change (match tys.toList with|t'::_=>aQ ts t' λti=>y6 ti h (dA _ args.toList) |_=>.bad)=r at he;split at he
    rename_i t' rest htys;obtain⟨ti,Y,he⟩:=ci E he hr;have hty0:tys[0]? =some t':=by rw[<-amL,htys];rfl
    obtain⟨ups,rfl,u,w',e1,e2⟩:=XY (P:=P) hp Y ⟨p1,p2⟩ he hr hty0 ty;intro _;refine⟨trivial,u,own,w',.inl ?_,.any _,e2⟩;simp_all [builtin];grind
   ·
    change (match tys.toList with| [t'] =>aQ ts t' λti=>t_ ti h (dA _ args.toList) |_=>.bad)=r at he;split at he
    rename_i t' htys;obtain⟨ti,Y,he⟩:=ci E he hr;have htys':tys= #[t']:=by grind
    obtain⟨n,hn',hl⟩:=XX (P:=P) (ty:=ty) hp Y ⟨p1,p2⟩ he hr;have hfin:(execOp a.eval { dst:=dst,op:=.call ⟨.builtin .len,args,tys⟩,type:=ty,pos:=pos,after:=after,guard:=guard}).run P w=.ok (.value (.int .i64 n)) w:=by
     simp_all [builtin]
    rcases hn' with⟨c,rfl,hc⟩ |rfl;exact⟨hc,_,hfin,.v _⟩;exact⟨_,hfin,.v _⟩;grind
   change JF (dA _ args.toList)=r at he;unfold JF at he;split at he
   rename_i k x k' y hvl;subst he;rw[hvl]at p1 p2;have h0:=p2 0 _ rfl;have h1:=p2 1 _ rfl;generalize hgv:args.map a.eval=vs at *;obtain⟨l⟩:=vs;match l,p1 with
   | [u,v],_=>
    simp at h0 h1;have e0:=cT h0;have e1:=cT h1;subst e0;subst e1;exact⟨_,by simp_all [builtin,Builtin.max_,Builtin.max2],.v _⟩
   grind
   change JE (dA _ args.toList)=r at he;unfold JE at he;split at he
   rename_i k x k' y hvl;subst he;rw[hvl]at p1 p2;have h0:=p2 0 _ rfl;have h1:=p2 1 _ rfl;generalize hgv:args.map a.eval=vs at *;obtain⟨l⟩:=vs;match l,p1 with
   | [u,v],_=>
    simp at h0 h1;have e0:=cT h0;have e1:=cT h1;subst e0;subst e1;exact⟨_,by simp_all [builtin,Builtin.min_,Builtin.min2],.v _⟩
   grind
 |range O x=>
  obtain⟨ti,Y,he⟩:=ci (k:=λti=>Em ti nx h (val ⟨ts,ops,g,⟨t,h⟩,nx⟩ x)) E he hr;have hvx:=X x;generalize val ⟨ts,ops,g,⟨t,h⟩,nx⟩ x=sx at he hvx;unfold Em at he;split at he
  rename_i id;obtain⟨hdd,h1,hv1,h2⟩:=iz hvx;cases ho:ap h id with
  |mp kk vk l apj=>
   rw[ho]at he;simp only[XO]at he;cases hc:lw kk ti.mkt&&lw vk ti.mvt&&noE apj with
   |false=>grind
   |true=>
     rw[hc]at he;simp only[cond_true]at he;simp only[akZ]at hc;subst he;obtain⟨kt,e,q1,_⟩:=zc Y (nH hc.1.1) (nH hc.1.2);obtain⟨hd',e0,bm,es,clk,m1,m2,m3,m4,m5,_⟩:=hp.at ho rfl;rw[h1]at e0;cases e0;rw[km hc.2]at m4;have hes:es.size=l.length:=m4.1;have hidn:id≠nx:=λe=>by rw[e,hn.none]at h1;cases h1
     intro _;refine⟨trivial,.pointer (some ⟨w.heap.size,0,none⟩),own.set nx ⟨some w.heap.size,undef,stV (kD es) clk,[w.heap.size]⟩,w.alloc (.mapIter (some bm) clk #[] clk),.inl ?_,.ptr (Own.aoY _ _ _) rfl,?_⟩;have:=run_range_map (P:=P) w O kt e bm es clk q1 m3;simp_all [execOp];have s1:=uu hp hn (w1:=w) ⟨rfl,rfl,rfl,rfl⟩ (.mapIter (some bm) clk #[] clk) (.mi (some id) l.length (List.range l.length) none) ⟨some w.heap.size,undef,stV (kD es) clk,[w.heap.size]⟩ rfl λee g=>⟨w.heap.size,rfl,rfl,λi hi=>by
      cases hi;obtain⟨hd2,k1,k2⟩:=g.ids _ _ h1;have hbl:(kD es).length=l.length:=by simp[kD,hes]
      refine⟨hd2,bm,#[],clk,kD es,k1,k2.2.1.trans m1,kC _ _,rfl,hbl,List.nodup_range,λk=>?_,λj hj=>by cases hj⟩;grind⟩
     have go:(own.set nx ⟨some w.heap.size,undef,stV (kD es) clk,[w.heap.size]⟩) id=some hdd:=by grind [Own.ao3]
     have s2:=Ip s1.hp go (.mp kk vk l (some (nx,none))) ⟨bm,es,clk,m1,m2,by grind [qD],m4.carry s1.fr.apg.apb,m5,_,Own.aoY _ _ _,rfl⟩;refine⟨s2.hp,s1.fr.trans s2.fr,λj hj hd=>?_⟩;have hd2:dL (ap (cL (cL h nx (.mi (some id) l.length (List.range l.length) none)) id (.mp kk vk l (some (nx,none)))) j)=true:=hd;rw[dG,dG]at hd2;by_cases e:j=nx
     subst e;rw[if_neg hidn,if_pos rfl]at hd2;cases hd2;grind [Own.ao3]
  |_=>rw[ho]at he;exact absurd he.symm hr
  grind
 |next it isS=>
  cases isS with
  |true=>exact absurd he.symm hr
  |false=>
   have hvx:=X it;change TW (val ⟨ts,ops,g,⟨t,h⟩,nx⟩ it)=r at he;generalize val ⟨ts,ops,g,⟨t,h⟩,nx⟩ it=sx at he hvx;unfold TW at he;split at he
   rename_i id;subst he;have key:∀ v,Rel F own w (.ptr id 0) v->∃ hd b,own id=some hd/\hd.p=some b/\v=.pointer (some ⟨b,0,none⟩):=λv h=>by
    cases h <;>grind
   obtain⟨hd,b,e1,e2,hev⟩:=key _ hvx;refine⟨hd,b,e1,e2,ty,λu w' W=>?_⟩;simp_all [execOp];grind
 |entry it=>
  have hvx:=X it;change CF h (val ⟨ts,ops,g,⟨t,h⟩,nx⟩ it)=r at he;generalize val ⟨ts,ops,g,⟨t,h⟩,nx⟩ it=sx at he hvx;unfold CF at he;split at he
  ·rename_i id;cases ho:ap h id with
   |mi mid n left cur=>
    rw[ho]at he;unfold Qz at he;split at he
    ·rename_i mid' n' left' j hob;cases hob;cases hm:ap h mid' with
     |mp kk vk l apj=>
      rw[hm]at he;cases apj with
      |none=>exact absurd he.symm hr
      |some q=>
      obtain⟨it,q⟩:=q;cases q with
      |some _=>exact absurd he.symm hr
      |none=>
      simp only[TX]at he;cases hbi:Nat.beq it id with
      |false=>grind
      |true=>
       rw[hbi]at he;simp only[cond_true]at he;have hit:=ak0 hbi;subst he;rintro⟨hn0,hj⟩;have key:∀ v,Rel F own w (.ptr id 0) v->∃ hd b,own id=some hd/\hd.p=some b/\v=.pointer (some ⟨b,0,none⟩):=λv h=>by
        cases h <;>grind
       obtain⟨hd,b,e1,e2,hev⟩:=key _ hvx;obtain⟨hd',e1',b',p1,p2,p3⟩:=hp.at ho rfl;rw[e1]at e1';cases e1';rw[e2]at p1;cases p1;obtain⟨hdm,bm,seen,c0,ss,k1,k2,k3,k4,k5,k6,k7,k8⟩:=p3 _ rfl;obtain⟨s8,hs8,hs⟩:=k8 j rfl;obtain⟨hdm',k1',bm',es,clk,m1,m2,m3,m4,m5,hd2,t1,t2⟩:=hp.at hm rfl;rw[k1]at k1';cases k1';rw[k2]at m1;cases m1;rw[hit,e1]at t1;cases t1;obtain⟨hc0,hss⟩:=QE (k4.symm.trans t2);subst hc0;subst hss;have hlt:j<l.length:=by omega
       obtain⟨en,f1,f2,f3,f4⟩:=m4.2 j l[j] (by simp[eI,hlt]);have hen:s8=en.born:=by
        grind [kD]
       subst hen;have hseen:seen=seen.pop.push en.born:=by
        obtain⟨xs,rfl⟩:=Array.back?_eq_some_iff.1 hs;simp
       have W:=Ho (P:=P) (w:=w) (b:=b) (bm:=bm) (since:=c0) (clock:=c0) (seen:=seen.pop) (es:=es) (e:=en) (by grind) m3 (by grind) m5.1;refine⟨.tuple #[en.key,en.val],by simp[execOp,hev,W],.tup rfl λk s hk=>?_⟩;have hgd:l.getD j (eG kk,eG vk)=l[j]:=by grind
       rw[hgd]at hk;match k,hk with
       |0,hk=>cases hk;exact f3|1,hk=>cases hk;exact f4
     |_=>rw[hm]at he;exact absurd he.symm hr
    grind
   |_=>rw[ho]at he;exact absurd he.symm hr
  grind
 |_=>exact absurd he.symm hr
end
def Dfr (F:Nat->Prop)(B:Bs)(w:World)(ds:List Deferred):Prop:=
 ∃ (ms:List Deferred) (Ds:List Nat),ds=ms++B.ds/\ms.map (·.target)=Ds.map .collected/\Ds.Nodup/\∀ D∈Ds,B.w.heap.size<=D/\F D/\w.heap[D]? =some (.deferred (some []))
variable {F:Nat->Prop}{B:Bs}{w:World}
theorem Dfr.fr{own ee:Own}{w':World}{ds:List Deferred}(h:Dfr F B w ds)(g:Fr { w:=w,own:=own} ee w')(E:∀ (id:Nat) (hd:Hd) (b:Nat),own id=some hd->b∈hd.bs->¬F b):Dfr F B w' ds:=by
 obtain⟨W,Ds,h0,h1,h2,h3⟩:=h;refine⟨W,Ds,h0,h1,h2,λD X=>?_⟩;obtain⟨q1,O,V⟩:=h3 D X;exact⟨q1,O,by rw[g.block D ⟨rL V,λ⟨id,hd,e,Y⟩ =>E id hd D e Y O⟩];exact V⟩
theorem Dfr.nil:Dfr F B w B.ds:=⟨[],[],rfl,rfl,amx,λD h=>by cases h⟩
def mY (ops:List Oper)(j:Nat):Prop:= ∃ (i:Nat) (o:Oper) (b:Bool),ops[i]? =some o/\o.guard=some (j,b)
def aqe (F:Nat->Prop)(ops:List Oper)(E:Nat->Prop)(own:Own)(a:Act)(w:World):SV->Value->Prop
 | .gd j b s,v=>E j/\mY ops j/\(yielded ops.toArray a.tmps j=some b->Rel F own w s v)|s,v=>Rel F own w s v
def GOk (ops:List Oper)(a:Act):Option (Nat×Bool)->Prop
 |none=>True|some g=>yielded ops.toArray a.tmps g.1=some g.2
section
variable {P:Program}{F:Nat->Prop}{own:Own}{w:World}{ts:Tis}
variable {ops:List Oper}{E:Nat->Prop}{a:Act}{v:Value}
theorem wX{s:SV}(h:Rel F own w s v):aqe F ops E own a w s v:=by
 cases s <;>first|exact h|cases h
variable {ee:Own}{w':World}
theorem aqe.mono{V:Nat->Prop}{O:Act}{s:SV}(h:aqe F ops E own a w s v)(hn:∀ j,E j->V j)(g:ao_ F own w ee w')
  (hy:∀ j b,E j->mY ops j->yielded ops.toArray O.tmps j=some b->yielded ops.toArray a.tmps j=some b):aqe F ops V ee O w' s v:=by
 cases s with
 |gd j b s=>exact⟨hn j h.1,h.2.1,λq=>(h.2.2 (hy j b h.1 h.2.1 q)).mono g⟩
 |_=>exact Rel.mono g h
theorem lJ (ops:List Oper)(tmps:Array Value)(j:Nat)(b:Bool):yielded ops.toArray tmps j=some b↔∃ o d,ops[j]? =some o/\o.dst=some d/\tmps[d]? =some (.bool b):=by
 grind [yielded,Option.bind_eq_some_iff]
structure ROk (N:Nat)(ops:List Oper):Prop where
 dst:∀ (i:Nat) (o:Oper) (d:Nat),ops[i]? =some o->o.dst=some d->d<N
 lt:∀ (i:Nat) (o:Oper) (j:Nat) (b:Bool),ops[i]? =some o->o.guard=some (j,b)->j<i
 uniq:∀ (j:Nat),mY ops j->∃ (o:Oper) (d:Nat),ops[j]? =some o/\o.dst=some d/\∀ (k:Nat) (q:Oper),k≠j->ops[k]? =some q->q.dst≠some d
variable {N:Nat}
theorem Ul(h:T8 N ops=true):ROk N ops:=by
 have h':∀ (i:Nat) (o:Oper),ops[i]? =some o->((match o.dst with|some d=>Nat.blt d N|none=>true)&&DO ops i o)=true:=by
  intro i o E;unfold T8 at h;rw[alA]at h;have:=h i (amy.2 (ak4.1 E).1);grind [gC]
 refine⟨λi o d E hd=>?_,λi o j b E V=>?_,λj ⟨i,o,b,E,V⟩ =>?_⟩;have:=h' i o E;simp_all;have:=h' i o E;simp_all [DO];have:=h' i o E;simp only[DO,V,akZ]at this;obtain⟨_,_,O⟩:=this;rw[gC]at O;cases Y:ops[j]? with
 |none=>grind
 |some q=>
  cases hd:q.dst with
  |none=>grind
  |some d=>
   rw[Y]at O;simp only[amG,hd,alA,amy,alx]at O;refine⟨q,d,rfl,hd,λk p hk W X=>?_⟩;have:=O k (ak4.1 W).1;simp_all [gC]
theorem EO {E:Nat->Prop}{ops:List Oper}{a:Act}(V:∀ (k:Nat) (o:Oper) (j:Nat) (b:Bool),E k->ops[k]? =some o->o.guard=some (j,b)->E j)(X:∀ (k:Nat) (o:Oper) (b:Bool),E k->mY ops k->ops[k]? =some o->yielded ops.toArray a.tmps k=some b->GOk ops a o.guard):
  ∀ (n:Nat) (g:Option (Nat×Bool)) (j:Nat) (b:Bool),(∀ k c,g=some (k,c)->E k/\mY ops k)->
  rJ ops n g j b=true->GOk ops a g->yielded ops.toArray a.tmps j=some b
 |0,_,_,_,_,h,_=>by simp[rJ]at h
 |n+1,none,_,_,_,h,_=>by simp[rJ]at h
 |n+1,some (j',b'),j,b,hm,h,hk=>by
  simp only[rJ]at h;cases hc:Nat.beq j' j&&Db b' b with
  |true=>
   simp only[akZ]at hc;have e1:=ak0 hc.1;have e2:b'=b:=by cases b' <;>cases b <;>simp[Db]at hc |-
   subst e1;subst e2;exact hk
  |false=>
   simp only[hc,cond_false]at h;have O:yielded ops.toArray a.tmps j'=some b':=hk;obtain⟨o,d,h1,h2,h3⟩:=(lJ _ _ _ _).1 O;obtain⟨Y,q2⟩:=hm j' b' rfl;rw[gC,h1]at h;refine EO V X n o.guard j b (λk c W=>?_) h (X j' o b' Y q2 h1 O);exact⟨V j' o k c Y h1 W,j',o,c,h1,W⟩
structure ao2 (F:Nat->Prop)(w0:Bs)(N:Nat)(ops:List Oper)(E:Nat->Prop)(own:Own)(st:St)(a:Act)(w:World):Prop where
 size:a.tmps.size=N
 defers:Dfr F w0 w a.defers
 hp:Hp F own w st.h
 fr:Fr w0 own w
 slots:∀ t,aqe F ops E own a w (lk t st.t) (a.tmps.getD t undef)
 tags:∀ (k:Nat) (o:Oper) (d j:Nat) (b:Bool) (s:SV),E k->mY ops k->ops[k]? =some o->o.dst=some d->lk d st.t=.gd j b s->o.guard=some (j,b)
 closed:∀ (k:Nat) (o:Oper) (j:Nat) (b:Bool),E k->ops[k]? =some o->o.guard=some (j,b)->E j
 chain:∀ (k:Nat) (o:Oper) (b:Bool),E k->mY ops k->ops[k]? =some o->yielded ops.toArray a.tmps k=some b->GOk ops a o.guard
variable {w0:Bs}{st:St}{g:Option (Nat×Bool)}
theorem J1{nx:Nat}(hi:ao2 F w0 N ops E own st a w)(X:GOk ops a g)(O:∀ k c,g=some (k,c)->E k/\mY ops k)(x:Operand):
  Rel F own w (val ⟨ts,ops,g,st,nx⟩ x) (a.eval x):=by
 cases x with
 |tmp t=>
  have h:=hi.slots t;show Rel F own w (bL ops g (lk t st.t)) (a.tmps.getD t undef);cases V:lk t st.t with
  |gd j b s=>
   rw[V]at h;show Rel F own w (bif rJ ops ops.length g j b then s else .any) _;cases W:rJ ops ops.length g j b with
   |true=>exact h.2.2 (EO hi.closed hi.chain _ g j b O W X)|false=>exact .any _
  |_=>rw[V]at h;exact h
 |const v=>exact .v v
 |func f=>exact .fn rfl rfl (λj s h=>by simp at h) (λj s h=>by simp at h)
 |global g=>exact .any _
theorem xP(hi:ao2 F w0 N ops E own st a w)(hg:GOk ops a g)(Y:∀ k c,g=some (k,c)->E k/\mY ops k)(c x:Operand)(O:Bool)
  (hc:a.eval c=.bool O):Rel F own w (kA ops g c O (raw st.t x)) (a.eval x):=by
 have W:=J1 (ts:=λ_=>none) (nx:=0) hi hg Y x;change Rel F own w (bL ops g (raw st.t x)) (a.eval x)at W;cases V:raw st.t x with
 |gd j b s=>
  rw[V]at W;show Rel F own w (bif Db b O&&LP ops j c then s else bL ops g (.gd j b s)) _;cases X:Db b O&&LP ops j c with
  |false=>exact W
  |true=>
   simp only[akZ]at X;have e2:b=O:=by cases b <;>cases O <;>simp[Db]at X |-
   subst e2;cases x with
   |tmp t=>
    have h:=hi.slots t;have hs':lk t st.t=.gd j b s:=V;rw[hs']at h;refine h.2.2 ((lJ _ _ _ _).2 ?_);have hd:=X.2;unfold LP at hd;rw[gC]at hd;split at hd
    rename_i d tc hb;simp only[anI]at hb;obtain⟨o,h1,h2⟩:=hb;have e:=ak0 hd;subst e;refine⟨o,d,h1,h2,?_⟩;have:a.tmps.getD d undef=.bool b:=hc;simp only[alw]at this;grind [undef]
    cases hd
   |const v=>simp[raw]at V|func f=>simp[raw]at V|global q=>simp[raw]at V
 |_=>rw[V]at W;exact W
theorem px (t:List (Nat×SV))(d:Nat)(s:SV)(n:Nat):lk n ((d,s)::t)=if d=n then s else lk n t:=by
 simp_all [lk]
theorem X5 (a:Act)(d:Nat)(v:Value)(hd:d<a.tmps.size)(n:Nat):(a.put (some d) v).tmps.getD n undef=if d=n then v else a.tmps.getD n undef:=by
 simp only[Act.put,alw,anj];grind
theorem Iy{dst:Option Nat}{j:Nat}{q:Oper}{E:Nat}(V:ops[j]? =some q)(hd:q.dst=some E)(O:dst≠some E)(b:Bool):
  yielded ops.toArray (a.put dst v).tmps j=some b↔yielded ops.toArray a.tmps j=some b:=by
 rw[lJ,lJ];have:(a.put dst v).tmps[E]? =a.tmps[E]?:=by
  cases dst with
  |none=>rfl
  |some d=>
   simp_all [Act.put]
 grind
theorem ao2.step{n:Nat}{E':Nat->Prop}(hr:ROk N ops)(hE:∀ k,E' k↔E k\/k=n)(hnE:¬E n)(hi:ao2 F w0 N ops E own st a w){o:Oper}(ho:ops[n]? =some o){h':List Ob}{s:SV}
  (fr1:Fr { w:=w,own:=own} ee w') (hp:Hp F ee w' h')
  (hgE:∀ j b,o.guard=some (j,b)->E j) (hs:aqe F ops E' ee (a.put o.dst v) w' s v) (hch:∀ b:Bool,v=.bool b->GOk ops a o.guard) (ap5:∀ j b s',s=.gd j b s'->o.guard=some (j,b)):
  ao2 F w0 N ops E' ee (St.put ⟨st.t,h'⟩ o.dst s) (a.put o.dst v) w':=by
 have g:ao_ F own w ee w':=fr1.apg;have hfr:=hi.fr.trans fr1;have hyk:∀ j b,E j->mY ops j->(yielded ops.toArray (a.put o.dst v).tmps j=some b↔yielded ops.toArray a.tmps j=some b):=by
  intro j b hj O;obtain⟨q,dj,h1,h2,h3⟩:=hr.uniq j O;grind [Iy]
 have hcl:∀ (k:Nat) (q:Oper) (j:Nat) (b:Bool),E' k->ops[k]? =some q->q.guard=some (j,b)->E j:=by
  intro k q j b X W V;rcases(hE k).1 X with X|rfl;exact hi.closed k q j b X W V;grind
 have hgk:∀ (k:Nat) (q:Oper),E' k->ops[k]? =some q->GOk ops a q.guard->GOk ops (a.put o.dst v) q.guard:=by
  intro k q X W hgo;cases V:q.guard with
  |none=>trivial
  |some g=>
   rw[V]at hgo;exact(hyk g.1 g.2 (hcl k q g.1 g.2 X W V) ⟨k,q,g.2,W,V⟩).2 hgo
 refine⟨?_,?_,?_,hfr,?_,?_,λk q j b X W V=>(hE j).2 (.inl (hcl k q j b X W V)),?_⟩;cases hd:o.dst <;>simp[Act.put,hi.size];have:(a.put o.dst v).defers=a.defers:=by cases hd:o.dst <;>rfl
 rw[this];exact hi.defers.fr fr1 hi.hp.apart;cases hd:o.dst <;>exact hp;intro t;have Y:aqe F ops E' ee (a.put o.dst v) w' (lk t st.t) (a.tmps.getD t undef):=
  (hi.slots t).mono (λj hj=>(hE j).2 (.inl hj)) g (λj b hj O=>(hyk j b hj O).1)
 cases hd:o.dst with
 |none=>
  rw[hd]at Y;exact Y
 |some d=>
  rw[hd]at Y hs;show aqe F ops E' ee _ w' (lk t ((d,s)::st.t)) _;rw[px,X5 _ _ _ (by rw[hi.size];exact hr.dst n o d ho hd)];grind
 intro k q d j b s' X O W hqd hl;rcases(hE k).1 X with hkn|hkn;obtain⟨q',d',h1,h2,h3⟩:=hr.uniq k O;rw[W]at h1;cases h1;rw[hqd]at h2;cases h2;have hne:=h3 n o (λe=>hnE (e▸hkn)) ho;refine hi.tags k q d j b s' hkn O W hqd ?_;cases hd:o.dst with
 |none=>rw[hd]at hl;exact hl
 |some d2=>
  rw[hd]at hl;change lk d ((d2,s)::st.t)=_ at hl;simp_all [px]
 subst hkn;rw[ho]at W;cases W;rw[hqd]at hl;change lk d ((d,s)::st.t)=_ at hl;rw[px,if_pos rfl]at hl;grind
 intro k q b X O W hy;rcases(hE k).1 X with hkn|hkn;exact hgk k q X W (hi.chain k q b hkn O W ((hyk k b hkn O).1 hy));grind [lJ,Act.put]
theorem uE {w0:Bs}{N:Nat}{E:Nat->Prop}{ops:List Oper}{st:St}{a:Act}(hi:ao2 F w0 N ops E own st a w){t:List (Nat×SV)}(n:Nat)
  (ht:∀ (j:Nat) (o:Oper) (d:Nat),j<n->E j->mY ops j->ops[j]? =some o->o.dst=some d->lk d t=lk d st.t) (hlt:∀ (i:Nat) (o:Oper) (j:Nat) (b:Bool),ops[i]? =some o->o.guard=some (j,b)->j<i):
  ∀ (m:Nat) (g:Nat×Bool),g.1<n->E g.1->mY ops g.1->GOk ops a (some g)->dU ops t m g
 |0,_,_,_,_,_=>trivial
 |m+1,(j,want),hjn,hj,hrf,hg=>by
  have X:yielded ops.toArray a.tmps j=some want:=hg;obtain⟨o,d,h1,h2,h3⟩:=(lJ _ _ _ _).1 X;have W:=hi.slots d;have hv:a.tmps.getD d undef=.bool want:=by simp_all
  rw[hv]at W;simp only[dU,gC,h1,amG,h2,ht j o d hjn hj hrf h1 h2];split
  rename_i x Y;rw[Y]at W;have:=cT (F:=F) (own:=own) (w:=w) W;grind
  rename_i j' b x Y;rw[Y]at W;obtain⟨q1,q2,q3⟩:=W;have V:=hi.tags j o d j' b _ hj hrf h1 h2 Y;have O:=hi.chain j o want hj hrf h1 X;rw[V]at O;have:=cT (q3 O);simp at this;exact⟨uE hi n ht hlt m (j',b) (Nat.lt_trans (hlt j o j' b h1 V) hjn) q1 q2 O,this.symm⟩;trivial
theorem EP {w0:Bs}{N:Nat}{E:Nat->Prop}{ops:List Oper}{st:St}{a:Act}(hi:ao2 F w0 N ops E own st a w){t:List (Nat×SV)}(n:Nat)
  (ht:∀ (j:Nat) (o:Oper) (d:Nat),j<n->E j->mY ops j->ops[j]? =some o->o.dst=some d->lk d t=lk d st.t) (hlt:∀ (i:Nat) (o:Oper) (j:Nat) (b:Bool),ops[i]? =some o->o.guard=some (j,b)->j<i):
  ∀ (m:Nat) (g:Nat×Bool),g.1<n->E g.1->mY ops g.1->¬GOk ops a (some g)->gq ops t m g
 |0,_,_,_,_,_=>trivial
 |m+1,(j,want),hjn,hj,hrf,hg=>by
  have hg':¬yielded ops.toArray a.tmps j=some want:=hg;simp only[gq,gC];cases W:ops[j]? with
  |none=>simp
  |some o=>
   cases hd:o.dst with
   |none=>simp[hd]
   |some d=>
    simp only[amG,hd,ht j o d hjn hj hrf W hd];have X:=hi.slots d;have hy:∀ x,a.tmps.getD d undef=.bool x->yielded ops.toArray a.tmps j=some x:=λx O=>by
     refine(lJ _ _ _ _).2 ⟨o,d,W,hd,?_⟩;simp only[alw]at O;grind [undef]
    split
    rename_i x O;rw[O]at X;have:=cT (F:=F) (own:=own) (w:=w) X;grind
    rename_i Y b x O;rw[O]at X;obtain⟨q1,q2,q3⟩:=X;have htg:=hi.tags j o d Y b _ hj hrf W hd O;by_cases V:GOk ops a (some (Y,b))
    right;have:=cT (q3 V);grind
    left;exact EP hi n ht hlt m (Y,b) (Nat.lt_trans (hlt j o Y b W htg) hjn) q1 q2 V;trivial
theorem Bv {w0:Bs}{N:Nat}{E:Nat->Prop}{ops:List Oper}{st:St}{a:Act}(hi:ao2 F w0 N ops E own st a w):
  ∀ (m:Nat) (g:Nat×Bool),E g.1->mY ops g.1->¬GOk ops a (some g)->gq ops st.t m g
 |0,_,_,_,_=>trivial
 |m+1,(j,want),hj,hrf,hg=>by
  have hg':¬yielded ops.toArray a.tmps j=some want:=hg;simp only[gq,gC];cases Y:ops[j]? with
  |none=>simp
  |some o=>
   cases hd:o.dst with
   |none=>simp[hd]
   |some d=>
    simp only[amG,hd];have W:=hi.slots d;have hy:∀ x,a.tmps.getD d undef=.bool x->yielded ops.toArray a.tmps j=some x:=λx V=>by
     refine(lJ _ _ _ _).2 ⟨o,d,Y,hd,?_⟩;simp only[alw]at V;grind [undef]
    split
    rename_i x V;rw[V]at W;have:=cT (F:=F) (own:=own) (w:=w) W;grind
    rename_i X b x V;rw[V]at W;obtain⟨q1,q2,q3⟩:=W;by_cases O:GOk ops a (some (X,b))
    right;have:=cT (q3 O);grind
    left;exact Bv hi m (X,b) q1 q2 O;trivial
variable {w0:Bs}{N:Nat}
structure aos (F:Nat->Prop)(w0:Bs)(N:Nat)(own:Own)(st:St)(a:Act)(w:World):Prop where
 size:a.tmps.size=N
 defers:Dfr F w0 w a.defers
 hp:Hp F own w st.h
 fr:Fr w0 own w
 slots:∀ t,Rel F own w (lk t st.t) (a.tmps.getD t undef)
variable {st:St}{a:Act}{E:Nat->Prop}
theorem aos.start{own:Own}{w:World}(h:aos F w0 N own st a w)(ops:List Oper)(V:∀ k,¬E k):ao2 F w0 N ops E own st a w:=
 ⟨h.size,h.defers,h.hp,h.fr,λt=>wX (h.slots t),λk _ _ _ _ _ O=>(V k O).elim,λk _ _ _ O=>(V k O).elim,λk _ _ O=>(V k O).elim⟩
theorem J2 (t:Nat):∀ l:List (Nat×SV),lk t (apl l)=match lk t l with| .gd .. =>.any|s=>s
 | [] =>rfl
 |(d,s)::r=>by
  have E:=J2 t r;cases s <;>simp only[apl,lk] <;>(cases Nat.beq d t <;>simp only[cond_true,cond_false] <;>first|exact E|rfl)
theorem QM (h:List Ob)(t:Nat):∀ l:List (Nat×SV),lk t (Oz h l)=T5 h (lk t l)
 | [] =>rfl
 |(d,s)::r=>by
  have E:=QM h t r;simp only[Oz,lk];grind
def Mi:∀ (h:List Ob) (id:Nat),ap (yH h) id=aaR (ap h id)
 | [],_=>rfl|o::_,0=>rfl|_::r,n+1=>Mi r n
theorem Iz:∀ h:List Ob,(yH h).length=h.length
 | [] =>rfl
 |_::r=>by simp only[yH,ak5,Iz r]
theorem Um {own:Own}{w:World}{h:List Ob}(O:Hp F own w h){s:SV}{v:Value}(hr:Rel F own w s v):Rel F own w (T5 h s) v:=by
 cases s with
 |os id=>
  simp only[T5];cases V:ap h id with
  |fwd n=>
   cases n with
   |none=>exact hr
   |some n=>
    simp only[aaQ];cases hr with
    |os h1 h2=>
     obtain⟨hd',E,e⟩:=O.at V rfl;rw[h1]at E;cases E;obtain⟨W,X,k2,Y⟩:=e n rfl;rw[<-k2]at h2 |-;exact .os X h2
  |_=>exact hr
 |_=>exact hr
theorem aos.apS{own:Own}{w:World}(h:aos F w0 N own st a w):aos F w0 N own (Sx.apS st) a w:=by
 unfold Sx.apS;cases ou st.h with
 |false=>exact h
 |true=>
  refine⟨h.size,h.defers,⟨λid hd e=>?_,h.hp.aoB,h.hp.apart,h.hp.inj,h.hp.lt,λid hd=>?_⟩,h.fr,λt=>?_⟩;show id< (yH st.h).length;rw[Iz];exact h.hp.dom id hd e;change dL (ap (yH st.h) id)=false at hd;change ∃ hd,own id=some hd/\ao5 F own w hd (ap (yH st.h) id);rw[Mi]at hd |-;cases E:ap st.h id with
  |fwd n=>rw[E]at hd;cases hd|dead=>rw[E]at hd;cases hd|_=>exact h.hp.at E rfl
  show Rel F own w (lk t (Oz st.h st.t)) _;rw[QM];exact Um h.hp (h.slots t)
variable {ops:List Oper}
theorem aos.finish{own:Own}{w:World}(h:ao2 F w0 N ops E own st a w):aos F w0 N own (wQ ops st) a w:=by
 unfold wQ;refine aos.apS ?_;cases X:ops.any (·.guard.isSome)with
 |true=>
  refine⟨h.size,h.defers,h.hp,h.fr,λt=>?_⟩;have O:=h.slots t;show Rel F own w (lk t (apl st.t)) _;rw[J2];cases V:lk t st.t with
  |gd j b s=>exact .any _|_=>rw[V]at O;exact O
 |false=>
  refine⟨h.size,h.defers,h.hp,h.fr,λt=>?_⟩;have O:=h.slots t;show Rel F own w (lk t st.t) _;cases V:lk t st.t with
  |gd j b s=>
   rw[V]at O;obtain⟨_,⟨i,o,W,h1,h2⟩,_⟩:=O;grind
  |_=>rw[V]at O;exact O
theorem aos.apl{own:Own}{w:World}(h:ao2 F w0 N ops E own st a w):aos F w0 N own ⟨Sx.apl st.t,st.h⟩ a w:=by
 refine⟨h.size,h.defers,h.hp,h.fr,λt=>?_⟩;have O:=h.slots t;show Rel F own w (lk t (Sx.apl st.t)) _;rw[J2];cases V:lk t st.t with
 |gd j b s=>exact .any _|_=>rw[V]at O;exact O
end
inductive PF:SV->Prop where
 |any:PF .any
 |v (x:Value):PF (.v x)
 |e0:PF .e0
 |rc {k:Tag} {l:List k.T}:PF (.rc k l)
 |rs {k:Tag} {l:List k.T}:PF (.rs k l)
 |rm {k k2:Tag} {l:List (k.T×k2.T)}:PF (.rm k k2 l)
 |ep {l:List SV} {off:Nat}:(∀ (j:Nat) (s:SV),l[j]? =some s->PF s)->PF (.ep l off)
 |ls {z:Nat} {l:List SV}:(∀ (j:Nat) (s:SV),l[j]? =some s->PF s)->PF (.ls z l)
 |agg {l:List SV}:(∀ (j:Nat) (s:SV),l[j]? =some s->PF s)->PF (.agg l)
 |tup {l:List SV}:(∀ (j:Nat) (s:SV),l[j]? =some s->PF s)->PF (.tup l)
 |fn {f:FuncId} {l m:List SV}:(∀ (j:Nat) (s:SV),l[j]? =some s->PF s)->(∀ (j:Nat) (s:SV),m[j]? =some s->PF s)->PF (.fn f l m)
theorem sD {k:Tag}{x:k.T}{j:Nat}{s:SV}(h:(cellsOf k x)[j]? =some s):PF s:=by
 rcases wS h with⟨y,rfl,_⟩ | ⟨k',l',rfl,_⟩ | ⟨k',k2,l',rfl,_⟩ | ⟨f,rfl,_⟩;exact .v y;exact .rs;exact .rm;exact .fn (λj s E=>by simp at E) (λj s E=>by simp at E)
theorem ua (k:Tag)(x:k.T):PF (svT k x):=by
 unfold svT;cases oo k with
 |true=>exact .agg λj s E=>sD E
 |false=>
  simp only[cond_false,gC];cases h:(cellsOf k x)[0]? with
  |none=>exact .any|some s=>exact sD h
theorem gO:∀ (n:Nat) (s:SV),dD n s=true->PF s
 |n,.v x,_=>.v x|n,.rs k l,_=>.rs|n,.rm _ _ _,_=>.rm|n,.e0,_=>.e0|n,.rc k l,_=>.rc|n,.any,_=>.any
 |n+1,.ep l _,h=>.ep λj s E=>gO n s (by grind [dD])
 |n+1,.ls _ l,h=>.ls λj s E=>gO n s (by grind [dD])
 |n+1,.agg l,h=>.agg λj s E=>gO n s (by grind [dD])
 |n+1,.tup l,h=>.tup λj s E=>gO n s (by grind [dD])
 |n+1,.fn _ l m,h=>.fn (λj s E=>gO n s (by simp only[dD,akZ,alA]at h;grind)) (λj s E=>gO n s (by simp only[dD,akZ,alA]at h;grind))
 |0,.ep _ _,h|0,.ls _ _,h|0,.agg _,h|0,.tup _,h|0,.fn _ _ _,h=>by simp[dD]at h
 |0,.ptr _ _,h|0,.os _,h|0,.rp _ _ _ _,h|0,.gr _ _,h|0,.gp _ _ _ _ _,h|0,.nw _ _,h|0,.nm _ _ _,h|0,.ng _ _,h|0,.gd _ _ _,h|0,.vw _ _ _ _,h=>by simp[dD]at h
 |_+1,.ptr _ _,h|_+1,.os _,h|_+1,.rp _ _ _ _,h|_+1,.gr _ _,h|_+1,.gp _ _ _ _ _,h|_+1,.nw _ _,h|_+1,.nm _ _ _,h|_+1,.ng _ _,h|_+1,.gd _ _ _,h|_+1,.vw _ _ _ _,h=>by simp[dD]at h
section
variable {P:Program}{F F':Nat->Prop}{own ee:Own}{w w':World}{ts:Tis}
variable {v:Value}
theorem Rel.aoQ{s:SV}(hr:Rel F own w s v)(O:PF s)(ho:∀ b,¬dg F own b->¬dg F' ee b):Rel F' ee w s v:=by
 induction hr with
 |any v=>exact .any v|v x=>exact .v x|ptr h1 h2=>cases O|os h1 h2=>cases O|e0=>exact .e0|rc _ V=>exact .rc (V .rs)|rp h1 h2 h3=>cases O|gr h1 h2 h3=>cases O|gp h1 h2 h3=>cases O|vw h1 h2 h3=>cases O
 |ep c h1 _ V=>cases O with|ep X=>exact .ep c (λj s E=>⟨ho _ (h1 j s E).1,(h1 j s E).2⟩) λj s E=>V j s E (X j s E)
 |rs c W h0' h1 _ V=>exact .rs c W h0' (λi x hi j s E=>⟨ho _ (h1 i x hi j s E).1,(h1 i x hi j s E).2⟩) λi x hi j s E=>V i x hi j s E (sD E)
 |rs0=>exact .rs0
 |ls c hz W h1 _ V=>cases O with|ls X=>exact .ls c hz W (λj s E=>⟨ho _ (h1 j s E).1,(h1 j s E).2⟩) λj s E=>V j s E (X j s E)
 |rm ck cv es clock W h1 h2 h3 _ _ Y ih2=>exact .rm ck cv es clock (ho _ W) h1 h2 h3 (λi x hi=>Y i x hi (ua _ _)) (λi x hi=>ih2 i x hi (ua _ _))
 |rm0=>exact .rm0
 |agg W _ V=>cases O with|agg X=>exact .agg W λj s E=>V j s E (X j s E)
 |tup W _ V=>cases O with|tup X=>exact .tup W λj s E=>V j s E (X j s E)
 |fn W h0' _ _ Y ih2=>cases O with|fn X hq'=>exact .fn W h0' (λj s E=>Y j s E (X j s E)) λj s E=>ih2 j s E (hq' j s E)
theorem py{s:SV}(h:Rel F dF w s v):PF s:=by
 generalize V:dF=o at h;induction h with
 |any v=>exact .any|v x=>exact .v x|ptr h1 h2=>subst V;cases h1|os h1 h2=>subst V;cases h1|e0=>exact .e0|rc _ _=>exact .rc|rp h1 h2 h3=>subst V;cases h1|gr h1 h2 h3=>subst V;cases h1|gp h1 h2 h3=>subst V;cases h1|vw h1 h2 h3=>subst V;cases h1
 |ep c h1 _ O=>exact .ep λj s E=>O j s E
 |rs c X h0' h1 _ O=>exact .rs|rs0=>exact .rs
 |ls c hz X h1 _ O=>exact .ls λj s E=>O j s E
 |rm ck cv es clock X h1 h2 h3 _ _ W Y=>exact .rm|rm0=>exact .rm
 |agg X _ O=>exact .agg λj s E=>O j s E
 |tup X _ O=>exact .tup λj s E=>O j s E
 |fn X h0' _ _ W Y=>exact .fn (λj s E=>W j s E) λj s E=>Y j s E
theorem ox {α β:Type}{f:α->β}{l:List α}{j:Nat}{s:β}(h:(l.map f)[j]? =some s):∃ x,l[j]? =some x/\f x=s:=by
 simpa using h
theorem n8 {b:Nat}(h:¬F b):¬dg F dF b:=by
 rintro (E| ⟨id,hd,e,_⟩);exact h E;cases e
theorem J3 {b:Nat}(h:¬dg F own b):¬F b:=λE=>h (.inl E)
theorem OY(Y:∀ b,F' b->F b){k:Tag}{l:List k.T}{bs:List Nat}(hr:aoO F own w k l v bs)(O:∀ b∈bs,¬F b):Rel F' dF w (.rs k l) v:=by
 rcases hr with⟨a,rfl,rfl,_⟩ | ⟨b,o,cap,cs,ty,rfl,rfl,h3,h4,h5,h6,h7⟩;exact .rs0;refine .rs (λi j=>cs.getD (o+i*aa k+j) undef) h5 h6 (λi x hi j s E=>?_) (λi x hi j s E=>?_);obtain⟨u,W,X⟩:=h7 i x hi j s E;refine⟨n8 λV=>O b (by simp) (Y _ V),?_⟩;rw[eJ h3,W];simp_all;obtain⟨u,W,X⟩:=h7 i x hi j s E;have:cs.getD (o+i*aa k+j) undef=u:=by simp_all
 rw[this];exact X.aoQ (sD E) λb hb=>n8 λV=>hb (.inl (Y _ V))
variable {h:List Ob}
theorem Uo(hp:Hp F own w h){id sz cap:Nat}{lo hi:Int}{hd:Hd}{a:Option Addr}(h1:own id=some hd)(h2:aaS hd.v sz lo hi a)(h3:hi.toNat - lo.toNat<=cap):Rel F dF w (XQ sz lo hi (ap h id)) (.slice a (hi.toNat - lo.toNat) cap):=by
 cases ho:ap h id with
 |row k l=>
  simp only[XQ];cases hb:Nat.beq sz (aa k)with
  |false=>exact .any _
  |true=>
   simp only[cond_true];have hsz:=ak0 hb;subst hsz;obtain⟨hd',e0,e⟩:=hp.at ho rfl;rw[h1]at e0;cases e0;have aqx:hi.toNat<=lo.toNat->Rel F dF w (.rs k ((l.take hi.toNat).drop lo.toNat)) (.slice a (hi.toNat - lo.toNat) cap):=λhle=>by
    have V:(l.take hi.toNat).drop lo.toNat=[]:=anQ (by grind);have e2:hi.toNat - lo.toNat=0:=by omega
    rw[V,e2];exact .rs0
   by_cases hle:hi.toNat<=lo.toNat
   grind
   rcases h2 with h2| ⟨b',Y,n',cap',q1,q2,rfl⟩;omega;rcases e with⟨a0,V,rfl,_⟩ | ⟨b,o,cap0,cs,ty,V,e2,e3,e4,e5,e6,e7⟩;grind
   rw[q1]at V;simp only[al6,ak3,ams]at V;obtain⟨⟨rfl,rfl,_⟩,rfl,rfl⟩:=V;have W:((l.take hi.toNat).drop lo.toNat).length=hi.toNat - lo.toNat:=by grind
   have O:∀ i x,((l.take hi.toNat).drop lo.toNat)[i]? =some x->l[lo.toNat+i]? =some x:=λi x E=>by
    grind
   have hix:∀ i j,b'.succ=b'.succ->Y+lo.toNat*aa k+i*aa k+j=Y+(lo.toNat+i)*aa k+j:=λi j _=>by grind
   rw[<-W];refine .rs (λi j=>cs.getD (Y+lo.toNat*aa k+i*aa k+j) undef) (by omega) (by omega) (λi x E j s X=>?_) (λi x E j s X=>?_);obtain⟨u,m1,m2⟩:=e7 _ x (O i x E) j s X;refine⟨n8 λhf=>hp.apart id hd b' h1 (by rw[e2];simp) hf,?_⟩;rw[eJ e3,hix i j rfl,m1];simp_all;obtain⟨u,m1,m2⟩:=e7 _ x (O i x E) j s X;have:cs.getD (Y+lo.toNat*aa k+i*aa k+j) undef=u:=by simp_all
   rw[this];exact m2.aoQ (sD X) λb hb=>n8 λhf=>hb (.inl hf)
 |_=>exact .any _
theorem Mj (k:Tag)(l:List (List k.T)):(∃ (k':Tag) (l':List k'.T),LG k l=.rs k' l'/\l'.length=l.length/\aa k'=1/\∀ (i:Nat) (x:k'.T),l'[i]? =some x->cellsOf k' x=[.rs k (l.getD i [])])\/LG k l=.any:=by
 cases k <;>first|exact .inr rfl|(left;exact⟨_,_,rfl,rfl,rfl,λi x E=>by simp[List.getD,E,cellsOf]⟩)
theorem X6(O:Hp F own w h){id:Nat}(hr:Rel F own w (.os id) v):Rel F dF w (frz (ap h id)) v:=by
 obtain⟨hd,h1,rfl,h2⟩:=iz hr;cases ho:ap h id with
 |row k l=>
  obtain⟨hd',E,e⟩:=O.at ho rfl;rw[h1]at E;cases E;exact OY (λ_ h=>h) e λb W=>O.apart id hd b h1 W
 |fz k l=>
  obtain⟨hd',E,e⟩:=O.at ho rfl;rw[h1]at E;cases E;exact Rel.aoQ e .rs λb W=>n8 (J3 W)
 |mp kk vk l V=>
  show Rel F dF w (bif noE V then .rm kk vk l else .any) hd.v;cases hq:noE V with
  |false=>exact .any _
  |true=>
   obtain⟨hd',E,b,es,clk,m1,m2,m3,m4,_⟩:=O.at ho rfl;rw[km hq]at m4;rw[h1]at E;cases E;rw[m1];have hnb:¬dg F dF b:=n8 (O.apart id hd b h1 (by simp[m2]));have hg:∀ i,es[i]? =some ⟨(es.getD i default).key,(es.getD i default).val,(es.getD i default).born⟩\/es.size<=i:=λi=>by
    rcases ama i es.size with hlt|hge <;>simp_all
   refine .rm (λi=>(es.getD i default).key) (λi=>(es.getD i default).val) es clk hnb m3 m4.1 (λi x hi=>?_) (λi x hi=>?_) (λi x hi=>?_);obtain⟨e,Y,e2,e3,e4⟩:=m4.2 i x hi;grind
   obtain⟨e,Y,e2,e3,e4⟩:=m4.2 i x hi;have:es.getD i default=e:=by simp_all
   rw[this];exact e3.aoQ (ua _ _) λb W=>n8 (J3 W);obtain⟨e,Y,e2,e3,e4⟩:=m4.2 i x hi;have:es.getD i default=e:=by simp_all
   rw[this];exact e4.aoQ (ua _ _) λb W=>n8 (J3 W)
 |aoV k l=>
  obtain⟨hd',E,e⟩:=O.at ho rfl;rw[h1]at E;cases E;show Rel F dF w (LG k l) hd.v;rcases Mj k l with⟨k',l',q1,q2,q3,q4⟩ |q;rw[q1];rcases e with⟨Y,rfl,_⟩ | ⟨b,o,cap,cs,ty,bs,Y,e2,e3,e4,e5,e6,e7,e8,e9⟩;have:l'=[]:=alk (by omega);rw[this,Y];exact .rs0;rw[Y,<-q2];have hvl:=e9.len;refine .rs (λi j=>hd.vs.getD i undef) (by omega) (by omega) (λi x hi j s X=>?_) (λi x hi j s X=>?_);have hil:i<hd.vs.length:=by grind
  rw[q4 i x hi]at X;cases j with
  |succ j=>simp at X
  |zero=>
   refine⟨n8 (O.apart id hd b h1 (by simp[e2])),?_⟩;rw[q3,amT,al_,eJ e4];grind
  have hil:i<hd.vs.length:=by grind
  rw[q4 i x hi]at X;cases j with
  |succ j=>simp at X
  |zero=>
   simp at X;subst X;obtain⟨b1,k1,k2,k3,k4⟩:=e9.get (sB (d:=undef) hil);exact OY (λ_ h=>h) k3 λc hc=>O.apart id hd c h1 (by grind)
  rw[q];exact .any _
 |_=>exact .any _
theorem ao1.ep {k:Tag}{l:List k.T}{o b:Nat}{cs:Array Value}{ty:TypeId}(Y:w.heap[b]? =some (.cells cs ty (0,0)))(W:ao1 F own w k l o cs)(O:¬F b){i:Nat}(hi:i<l.length)(off:Nat):Rel F dF w (.ep (cellsOf k (l.getD i (eG k))) off) (.pointer (some ⟨b,o+i*aa k+off,none⟩)):=by
 refine .ep (λj=>cs.getD (o+i*aa k+j) undef) (λj s E=>?_) (λj s E=>?_);obtain⟨X,V⟩:=W.get hi E;grind [n8,eJ]
 obtain⟨X,V⟩:=W.get hi E;exact V.aoQ (sD E) λb O=>n8 (J3 O)
theorem Af(X:Hp F own w h):∀ (n:Nat) (s:SV) (v:Value),Rel F own w s v->Rel F dF w (gi h n s) v:=by
 have ph:∀ (n:Nat) (s:SV) (v:Value),Rel F own w s v->(∀ l o,s≠ .ep l o)->(∀ z l,s≠ .ls z l)->(∀ l,s≠ .agg l)->(∀ l,s≠ .tup l)->(∀ f l m,s≠ .fn f l m)->(∀ i o,s≠ .ptr i o)->Rel F dF w (gi h n s) v:=by
  intro n s v hr n1 n2 n3 n4 n5 n6;cases hr with
  |any=>cases n <;>exact .any _|v x=>cases n <;>exact .v _|ptr=>grind|os h1 h2=>cases n <;>exact X6 X (.os h1 h2)|vw h1 h2 h3=>cases n <;>exact Uo X h1 h2 h3|e0=>cases n <;>exact .e0
  |rc W=>cases n <;>exact W.aoQ .rs λb Y=>n8 (J3 Y)
  |rp h1 h2 h3=>
   rename_i E id off nn cap b o i hd;have key:Rel F dF w (bif Nat.beq E 0 then .any else XP E off i (ap h id)) (.pointer (some ⟨b,o+i.toNat*E+off,none⟩)):=by
    cases hz:Nat.beq E 0 with
    |true=>exact .any _
    |false=>
     simp only[cond_false];cases ho:ap h id with
     |row k l=>
      simp only[XP];cases Y:Nat.beq E (aa k)with
      |false=>exact .any _
      |true=>
       have hsz:=ak0 Y;obtain⟨hd',e0,e⟩:=X.at ho rfl;rw[h1]at e0;cases e0;rcases e with⟨a,O,_⟩ | ⟨b',o',cap',cs,ty,O,e2,e3,e4,e5,e6,e7⟩;grind
       rw[h2]at O;simp only[al6,ak3,ams]at O;obtain⟨⟨rfl,rfl,_⟩,rfl,rfl⟩:=O;rw[hsz];exact ao1.ep e3 e7 (X.apart id hd b h1 (by simp[e2])) h3 off
     |_=>exact .any _
   cases n <;>exact key
  |gr h1 h2 h3=>
   rename_i id i hd;have key:Rel F dF w (T0 i (ap h id)) v:=by
    cases ho:ap h id with
    |aoV k l=>
     obtain⟨hd',e0,e⟩:=X.at ho rfl;rw[h1]at e0;cases e0;rcases e with⟨_,_,O,_⟩ | ⟨b,o,cap,cs,ty,bs,O,e2,e3,e4,e5,e6,e7,e8,e9⟩;grind
     obtain⟨b1,k1,k2,k3,k4⟩:=e9.get h2;exact OY (λ_ h=>h) k3 λc hc=>X.apart id hd c h1 (by grind)
    |_=>exact .any _
   cases n <;>exact key
  |gp h1 h2 h3=>
   rename_i E id off nn cap b o i j hd;have key:Rel F dF w (bif Nat.beq E 0 then .any else QB E off i j (ap h id)) (.pointer (some ⟨b,o+j.toNat*E+off,none⟩)):=by
    cases hz:Nat.beq E 0 with
    |true=>exact .any _
    |false=>
     simp only[cond_false];cases ho:ap h id with
     |aoV k l=>
      simp only[QB];cases Y:Nat.beq E (aa k)with
      |false=>exact .any _
      |true=>
       have hsz:=ak0 Y;obtain⟨hd',e0,e⟩:=X.at ho rfl;rw[h1]at e0;cases e0;rcases e with⟨_,_,O,_⟩ | ⟨b',o',cap',cs,ty,bs,O,e2,e3,e4,e5,e6,e7,e8,e9⟩;grind
       obtain⟨b1,k1,k2,k3,k4⟩:=e9.get h2;rcases k3 with⟨a,m1,_⟩ | ⟨b2,o2,cap2,cs2,ty2,m1,m2,m3,m4,m5,m6,m7⟩;grind
       simp only[al6,ak3,ams]at m1;obtain⟨⟨rfl,rfl,_⟩,rfl,rfl⟩:=m1;rw[hsz];exact ao1.ep m3 m7 (X.apart id hd b h1 (by grind)) h3 off
     |_=>exact .any _
   cases n <;>exact key
  |ep=>grind
  |rs c W h0' h1 h2=>cases n <;>exact Rel.aoQ (.rs c W h0' h1 h2) .rs λb Y=>n8 (J3 Y)
  |rs0=>cases n <;>exact .rs0|ls=>grind
  |rm ck cv es clock W h1 h2 h3 h4 h5=>cases n <;>exact Rel.aoQ (.rm ck cv es clock W h1 h2 h3 h4 h5) .rm λb Y=>n8 (J3 Y)
  |rm0=>cases n <;>exact .rm0|agg=>grind|tup=>grind|fn=>grind
 intro n;induction n with
 |zero=>
  intro s v hr;cases s <;>first|exact .any _|(refine ph 0 _ _ hr ?_ ?_ ?_ ?_ ?_ ?_ <;>intros <;>(intro e;cases e)) |cases hr
 |succ n ih=>
  intro s v hr;cases s with
  |ptr id off=>
   cases hr with
   |ptr h1 h2=>
    rename_i b hd;simp only[gi];cases ho:ap h id with
    |cells l=>
     simp only[RS];obtain⟨hd',e0,b',cs,ty,O,e2,e3,e4,e5⟩:=X.at ho rfl;rw[h1]at e0;cases e0;rw[h2]at O;cases O;have:=Rel.ep (F:=F) (own:=dF) (w:=w) (cells:=l.map (gi h n)) (off:=off) (b:=b) (o:=0) (λj=>cs.getD j undef)
      (λj s V=>by
       obtain⟨x,hx,rfl⟩:=ox V;refine⟨n8 (X.apart _ _ b h1 (by simp[e2])),?_⟩;have hjl:j<cs.size:=by grind
       rw[ak8,eJ e3];simp[hjl])
      (λj s V=>by
       grind)
     grind
    |_=>exact .any _
  |ep l o=>
   cases hr with
   |ep c h1 h2=>
    simp only[gi];exact .ep c (λj s V=>by grind [n8,J3]) (λj s V=>by grind)
  |ls z l=>
   cases hr with
   |ls c hz W h1 h2=>
    simp only[gi];have:=Rel.ls (F:=F) (own:=dF) (w:=w) (z:=z) (l:=l.map (gi h n)) c (by simpa using hz) W (λj s V=>by obtain⟨x,hx,rfl⟩:=ox V;exact⟨n8 (J3 (h1 j x hx).1),(h1 j x hx).2⟩) (λj s V=>by grind);grind
  |agg l=>cases hr with|agg W h1=>simp only[gi];exact .agg (by grind) λj s V=>by grind
  |tup l=>cases hr with|tup W h1=>simp only[gi];exact .tup (by grind) λj s V=>by grind
  |fn f l m=>cases hr with|fn W h0' h1 h2=>simp only[gi];exact .fn (by grind) (by grind) (λj s V=>by grind) λj s V=>by grind
  |_=>first|(refine ph (n+1) _ _ hr ?_ ?_ ?_ ?_ ?_ ?_ <;>intros <;>(intro e;cases e)) |cases hr
theorem Uq:∀ (n:Nat) (s:SV) (v:Value),PF s->Rel F own w s v->Rel (dg F own) dF w (gi h n s) v:=by
 have E:∀ b,¬dg F own b->¬dg (dg F own) dF b:=λb hb=>n8 hb;intro n;induction n with
 |zero=>
  intro s v W hr;cases W with
  |any=>exact .any _|v x=>exact hr.aoQ (.v x) E|e0=>exact hr.aoQ .e0 E
  |rc=>cases hr with|rc O=>exact O.aoQ .rs E
  |rs=>exact hr.aoQ .rs E|rm=>exact hr.aoQ .rm E|_=>exact .any _
 |succ n ih=>
  intro s v W hr;cases W with
  |any=>exact .any _|v x=>exact hr.aoQ (.v x) E|e0=>exact hr.aoQ .e0 E
  |rc=>cases hr with|rc O=>exact O.aoQ .rs E
  |rs=>exact hr.aoQ .rs E|rm=>exact hr.aoQ .rm E
  |ep X=>
   cases hr with
   |ep c h1 h2=>
    simp only[gi];exact .ep c (λj s V=>by grind) (λj s V=>by grind)
  |ls X=>
   cases hr with
   |ls c hz O h1 h2=>
    simp only[gi];rename_i z l m b o cap;have:=Rel.ls (F:=dg F own) (own:=dF) (w:=w) (z:=z) (l:=l.map (gi h n)) c (by simpa using hz) O (λj s V=>by obtain⟨x,Y,rfl⟩:=ox V;exact⟨E _ (h1 j x Y).1,(h1 j x Y).2⟩) (λj s V=>by grind);grind
  |agg X=>cases hr with|agg O h1=>simp only[gi];exact .agg (by grind) λj s V=>by grind
  |tup X=>cases hr with|tup O h1=>simp only[gi];exact .tup (by grind) λj s V=>by grind
  |fn X hq'=>cases hr with|fn O h0' h1 h2=>simp only[gi];exact .fn (by grind) (by grind) (λj s V=>by grind) λj s V=>by grind
def cnt (n:Nat):List SV->Nat
 | [] =>0|x::r=>(a6 n x).length+cnt n r
def wY (F:Nat->Prop)(own:Own)(w:World):Nat->Nat->SV->Value->Prop
 |_,b,.nw _ _,v=>∃ hd,own b=some hd/\v=hd.v/\pt v=true|_,b,.nm _ _ _,v=>∃ hd,own b=some hd/\v=hd.v/\pt v=true|_,b,.ng _ _,v=>∃ hd,own b=some hd/\v=hd.v/\pt v=true|n+1,b,.agg l,v=>∃ vs,v=.agg vs/\vs.size=l.length/\∀ (j:Nat) (s:SV),l[j]? =some s->wY F own w n (b+cnt n (l.take j)) s (vs.getD j undef)|n+1,b,.tup l,v=>∃ vs,v=.tuple vs/\vs.size=l.length/\∀ (j:Nat) (s:SV),l[j]? =some s->wY F own w n (b+cnt n (l.take j)) s (vs.getD j undef)|_,_,s,v=>Rel (dg F own) dF w s v
theorem zd (f:Nat->SV->SV)(n:Nat):∀ (l:List SV) (b j:Nat) (s:SV),(rh f (λs=>(a6 n s).length) b l)[j]? =some s->∃ x,l[j]? =some x/\s=f (b+cnt n (l.take j)) x
 | [],b,j,s,h=>by simp[rh]at h
 |x::r,b,0,s,h=>by grind [rh,cnt]
 |x::r,b,j+1,s,h=>by
  simp[rh]at h;obtain⟨y,h1,h2⟩:=zd f n r _ j s h;grind [cnt]
theorem zf (f:Nat->SV->SV)(c:SV->Nat):∀ (l:List SV) (b:Nat),(rh f c b l).length=l.length
 | [],b=>rfl
 |x::r,b=>by simp[rh,zf f c r]
theorem IA:∀ (n:Nat) (s:SV) (v:Value),jo n s=true->(∀ k l,s≠ .nw k l)->(∀ k k2 l,s≠ .nm k k2 l)->(∀ k l,s≠ .ng k l)->(∀ l,s≠ .agg l)->(∀ l,s≠ .tup l)->Rel F own w s v->Rel F' ee w' s v:=by
 intro n s v h V X O E W hr;cases s with
 |v x=>cases hr;exact .v _|nw k l=>grind|nm k k2 l=>grind|ng k l=>grind|agg l=>grind|tup l=>grind|_=>cases n <;>simp[jo]at h
theorem EQ {X2:Own}{m:Nat}(O:∀ id hd,ee id=some hd->X2 (id+m)=some hd):∀ (n b:Nat) (s:SV) (v:Value),wY F ee w n b s v->
  ((∀ c,¬dg (dg F ee) dF c->¬dg F' X2 c)\/jo n s=true)->Rel F' X2 w (jp n (b+m) s) v:=by
 intro n;induction n with
 |zero=>
  intro b s v h hc;cases s with
  |nw k l=>obtain⟨hd,h1,rfl,E⟩:=h;exact .os (O _ _ h1) E
  |nm k k2 l=>obtain⟨hd,h1,rfl,E⟩:=h;exact .os (O _ _ h1) E
  |ng k l=>obtain⟨hd,h1,rfl,E⟩:=h;exact .os (O _ _ h1) E
  |agg l=>
   have hr:Rel (dg F ee) dF w (.agg l) v:=h;rcases hc with hc|hc;exact hr.aoQ (py hr) hc;simp[jo]at hc
  |tup l=>
   have hr:Rel (dg F ee) dF w (.tup l) v:=h;rcases hc with hc|hc;exact hr.aoQ (py hr) hc;simp[jo]at hc
  |_=>
   have hr:Rel (dg F ee) dF w _ v:=h;rcases hc with hc|hc;exact hr.aoQ (py hr) hc;exact IA _ _ _ hc (by intros;intro e;cases e) (by intros;intro e;cases e) (by intros;intro e;cases e) (by intros;intro e;cases e) (by intros;intro e;cases e) hr
 |succ n X=>
  intro b s v h hc;cases s with
  |nw k l=>obtain⟨hd,h1,rfl,E⟩:=h;exact .os (O _ _ h1) E
  |nm k k2 l=>obtain⟨hd,h1,rfl,E⟩:=h;exact .os (O _ _ h1) E
  |ng k l=>obtain⟨hd,h1,rfl,E⟩:=h;exact .os (O _ _ h1) E
  |agg l=>
   obtain⟨vs,rfl,h1,h2⟩:=h;refine .agg (by grind [zf]) λj s V=>?_;obtain⟨x,W,rfl⟩:=zd _ n l _ j s V;grind [jo]
  |tup l=>
   obtain⟨vs,rfl,h1,h2⟩:=h;refine .tup (by grind [zf]) λj s V=>?_;obtain⟨x,W,rfl⟩:=zd _ n l _ j s V;grind [jo]
  |_=>
   have hr:Rel (dg F ee) dF w _ v:=h;rcases hc with hc|hc;exact hr.aoQ (py hr) hc;exact IA _ _ _ hc (by intros;intro e;cases e) (by intros;intro e;cases e) (by intros;intro e;cases e) (by intros;intro e;cases e) (by intros;intro e;cases e) hr
theorem ER:∀ (n:Nat) {s:SV} {v:Value},Rel F own w s v->a6 n s=[]
 |0,s,v,h=>by cases h <;>rfl
 |n+1,s,v,h=>by
  cases h <;>first|rfl|skip
  rename_i l vs V h1;simp only[a6,anJ];intro x O;obtain⟨j,E⟩:=alS O;exact ER n (h1 j x E);rename_i l vs V h1;simp only[a6,anJ];intro x O;obtain⟨j,E⟩:=alS O;exact ER n (h1 j x E)
theorem Ur:∀ (n b:Nat) {s:SV} {v:Value},Rel F dF w s v->wY F dF w n b s v:=by
 have V:∀ c,¬dg F dF c->¬dg (dg F dF) dF c:=λc hc=>n8 hc;intro n;induction n with
 |zero=>intro b s v h;have:=h.aoQ (py h) V;cases s <;>first|exact this|cases h
 |succ n W=>
  intro b s v h;have:=h.aoQ (py h) V;cases s with
  |agg l=>cases h with|agg E h1=>exact⟨_,rfl,E,λj s O=>W _ (h1 j s O)⟩
  |tup l=>cases h with|tup E h1=>exact⟨_,rfl,E,λj s O=>W _ (h1 j s O)⟩
  |nw=>cases h|nm=>cases h|ng=>cases h|gd=>cases h|_=>exact this
end
def an:Con->Prop
 | .det p _=>p| .rel _ p _ _=>p| .may _ _ _=>True
def dZ:Con->SV->Prop
 | .det _ s,s'=>s'=s| .rel _ _ post out,s'=>∃ r,post r/\s'=out r| .may ok s _,s'=>ok=true/\s'=s
def kZ:Con->Value->Prop
 | .may ok _ x,x'=>ok=false/\x'=x|_,_=>False
section
variable {P:Program}{F F':Nat->Prop}{own ee:Own}{w w':World}{ts:Tis}
structure Handed (F:Nat->Prop)(w:World)(ee:Own)(w':World)(s:SV)(u:Value):Prop where
 hp:Hp F ee w' (a6 3 s)
 val:wY F ee w' 3 0 s u
 fresh:∀ (id:Nat) (hd:Hd) (b:Nat),ee id=some hd->b∈hd.bs->w.heap.size<=b
structure P1 (P:Program)(f:FuncId)(C:List SV->Option Con):Prop where
 enter:∀ l c,C l=some c->∀ (args:Array Value) (w:World),(callFunc f args).run P w=.ok (.enter f args) w
 calls:∀ l c,C l=some c->an c->∀ (F:Nat->Prop) (w:World) (vs:Array Value),(∀ b,F b->b<w.heap.size)->aoX F dF w l vs->
  Calls P f vs w (λe w'=>(∃ s u ee,dZ c s/\e=.returned u/\Handed F w ee w' s u/\Below w.heap.size w w')\/(∃ x,kZ c x/\e=.panicked [{ v:=x,recovered:=false}]/\Below w.heap.size w w'))
def J4 (F:Nat->Prop)(w:World)(own:Own)(n:Nat)(e:Ending)(ee:Own)(w':World):Rs->Prop
 | .ret s h=>(∃ u,e=.returned u/\Rel F ee w' s u)/\Hp F ee w' h/\Fr { w:=w,own:=own} ee w'/\n<=h.length| .pan x h=>e=.panicked [{ v:=x,recovered:=false}]/\Hp F ee w' h/\Fr { w:=w,own:=own} ee w'/\n<=h.length
structure aoH (P:Program)(f:FuncId)(C:List SV->List Ob->Option aoJ):Prop where
 enter:∀ l h c,C l h=some c->∀ (args:Array Value) (w:World),(callFunc f args).run P w=.ok (.enter f args) w
 calls:∀ l h c,C l h=some c->c.pre->∀ (F:Nat->Prop) (own:Own) (w:World) (vs:Array Value),Hp F own w h->aoX F own w l vs->
  Calls P f vs w (λe w'=>∃ r ee,c.post r/\J4 F w own h.length e ee w' (c.res r))
abbrev rd (r:Option Nat):Fence:= { fn:=λ_=>True,depth:=none,alive:=false,round:=r}
def ZG (P:Program)(v:Value)(vs:Array Value)(w:World)(R:Ending->World->Prop):Prop:=
 (∃ f args,(So v vs).run P w=.ok (.enter f args) w/\Calls P f args w R)\/(∃ l f tmps as bd,(So v vs).run P w=.ok (.round l f tmps as bd) w/\RoundIn (rd none) 0 P l f tmps as bd w R)
structure YFr (bs bs':List Nat)(w w':World):Prop where
 os:w'.os=w.os
 tape:w'.tape=w.tape
 output:w'.output=w.output
 size:w.heap.size<=w'.heap.size
 block:∀ b,b<w.heap.size->b ∉ bs->w'.heap[b]? =w.heap[b]?
 bs:∀ b∈bs',b<w'.heap.size/\(b∈bs\/w.heap.size<=b)
def YOk (P:Program)(C:List SV->Res->Option apR):Prop:=
 ∀ l r c,C l r=some c->c.pre->∀ (F:Nat->Prop) (bs:List Nat) (w:World) (vs:Array Value),r.R F bs w->(∀ b,F b->b<w.heap.size)->(∀ b∈bs,b<w.heap.size/\¬F b)->aoX (λb=>F b\/b∈bs) dF w l vs->
  ZG P r.yv vs w (λe w'=>∃ a bs',c.post a/\e=.returned (.bool (c.res a).1)/\(c.res a).2.R F bs' w'/\(c.res a).2.yv=r.yv/\YFr bs bs' w w')
structure aot (P:Program)(G:Cons):Prop where
 p:∀ f,P1 P f (G.p f)
 o:∀ f,aoH P f (G.o f)
 y:YOk P G.y
variable {r:Option Nat}{n:Nat}{f:FuncId}{R:Ending->World->Prop}
def oy{P:Program}{vs:Array Value}{w:World}(h:Calls P f vs w R):CallsIn (rd r) n P f vs w R:=(callsIn_wide (n:=n)).2 h
def sE{P:Program}{vs:Array Value}{w:World}(h:CallsIn (rd none) n P f vs w R):Calls P f vs w R:=(callsIn_wide (n:=n)).1 h
theorem Mk{P:Program}{l:Nat}{tmps:Array Value}{E O:Code}{w:World}(h:RoundIn (rd none) 0 P l f tmps E O w R):RoundIn (rd r) n P l f tmps E O w R:=
 ⟨trivial,λc cs hr=>h.2 c cs (by simp[Fence.room])⟩
variable {k:Tag}{x:k.T}{j:Nat}
theorem J5(E:aoA k=0){s:SV}(h:(cellsOf k x)[j]? =some s):∃ y,s=.v y:=by
 grind [wS]
theorem IB(O:aoA k=0){v:Value}(h:Rel F own w (svT k x) v):Rel F' ee w' (svT k x) v:=by
 unfold svT at h |-;cases E:oo k with
 |true=>
  rw[E]at h;simp only[cond_true]at h |-;obtain⟨vs,rfl,h1⟩:=tP h;exact .agg h1.1 λj s V=>by
   obtain⟨y,rfl⟩:=J5 O V;have:=cT (h1.2 j _ V);rw[this];exact .v y
 |false=>
  rw[E]at h;simp only[cond_false,gC]at h |-;cases hc:(cellsOf k x)[0]? with
  |none=>exact .any _
  |some s=>
   rw[hc]at h;obtain⟨y,rfl⟩:=J5 O hc;have:=cT h;rw[this];exact .v y
variable {l:List k.T}
theorem ao1.aoQ{o:Nat}{cs:Array Value}(h:ao1 F own w k l o cs)(hc:(∀ b,¬dg F own b->¬dg F' ee b)\/aoA k=0):ao1 F' ee w k l o cs:=λi x hi j s E=>by
 obtain⟨u,h1,h2⟩:=h i x hi j s E;refine⟨u,h1,?_⟩;rcases hc with hc|hk;exact h2.aoQ (sD E) hc;obtain⟨y,rfl⟩:=J5 hk E;have:=cT h2;rw[this];exact .v y
theorem aoO.aoQ{v:Value}{bs:List Nat}(h:aoO F own w k l v bs)(hc:(∀ b,¬dg F own b->¬dg F' ee b)\/aoA k=0):aoO F' ee w k l v bs:=by
 rcases h with h| ⟨b,o,cap,cs,ty,h1,h2,W,O,X,E,V⟩;exact .inl h;exact .inr ⟨b,o,cap,cs,ty,h1,h2,W,O,X,E,V.aoQ hc⟩
theorem aoS.aoQ(hc:(∀ b,¬dg F own b->¬dg F' ee b)\/aoA k=0):∀ {l:List (List k.T)} {vs:List Value} {bs:List Nat},aoS F own w k l vs bs->aoS F' ee w k l vs bs
 | [],[],bs,h=>h|l::X,v::vs,bs,⟨E,O,h1,V,h2,W⟩ =>⟨E,O,h1,V,h2.aoQ hc,W.aoQ hc⟩| [],_::_,_,h=>h.elim|_::_,[],_,h=>h.elim
def Plain (o:Ob):Prop:=(∃ (k:Tag) (l:List k.T),o=.row k l)\/(∃ (k k2:Tag) (l:List (k.T×k2.T)),o=.mp k k2 l none)\/∃ (k:Tag) (l:List (List k.T)),o=.aoV k l
def ZH (o:Ob):Prop:=match o with
 | .row k _=>aoA k=0| .mp k k2 _ _=>aoA k=0/\aoA k2=0| .aoV k _=>aoA k=0|_=>False
theorem ao5.aoQ {hd:Hd}{o:Ob}(ho:Plain o)(h:ao5 F own w hd o)(hc:(∀ b,¬dg F own b->¬dg F' ee b)\/ZH o):ao5 F' ee w hd o:=by
 rcases ho with⟨k,l,rfl⟩ | ⟨k,k2,l,rfl⟩ | ⟨k,l,rfl⟩;exact aoO.aoQ h hc;obtain⟨b,es,O,h1,h2,V,E,W,X⟩:=h;refine⟨b,es,O,h1,h2,V,⟨E.1,λi x hi=>?_⟩,W,trivial⟩;obtain⟨e,e1,e2,Y,e4⟩:=E.2 i x hi;refine⟨e,e1,e2,?_,?_⟩;rcases hc with hc|hk;exact Y.aoQ (ua _ _) hc;exact IB hk.1 Y;rcases hc with hc|hk;exact e4.aoQ (ua _ _) hc;exact IB hk.2 e4;rcases h with h| ⟨b,o,cap,cs,ty,bs,h1,h2,V,E,W,X,h7,h8,h9⟩;exact .inl h;exact .inr ⟨b,o,cap,cs,ty,bs,h1,h2,V,E,W,X,h7,h8,h9.aoQ hc⟩
theorem zg:∀ (n:Nat) (s:SV) (o:Ob),o∈a6 n s->Plain o/\(jo n s=true->ZH o):=by
 intro n;induction n with
 |zero=>
  intro s o h;cases s <;>simp[a6]at h <;>subst h;exact⟨.inl ⟨_,_,rfl⟩,λE=>ak0 E⟩;exact⟨.inr (.inl ⟨_,_,_,rfl⟩),λE=>by simp only[jo,akZ]at E;exact⟨ak0 E.1,ak0 E.2⟩⟩;exact⟨.inr (.inr ⟨_,_,rfl⟩),λE=>ak0 E⟩
 |succ n O=>
  intro s o h;cases s with
  |nw k l=>simp[a6]at h;subst h;exact⟨.inl ⟨_,_,rfl⟩,λE=>ak0 E⟩
  |nm k k2 l=>simp[a6]at h;subst h;exact⟨.inr (.inl ⟨_,_,_,rfl⟩),λE=>by simp only[jo,akZ]at E;exact⟨ak0 E.1,ak0 E.2⟩⟩
  |ng k l=>simp[a6]at h;subst h;exact⟨.inr (.inr ⟨_,_,rfl⟩),λE=>ak0 E⟩
  |agg l=>
   grind [a6,jo]
  |tup l=>
   grind [a6,jo]
  |_=>simp[a6]at h
variable {h:List Ob}
theorem Ml{id:Nat}(hd:dL (ap h id)=false):ap h id∈h:=by
 grind [vp,dL]
theorem sa {α:Type}:∀ {l:List α} {i j:Nat} {x:α},l.Nodup->l[i]? =some x->l[j]? =some x->i=j
 | [],i,j,x,_,h,_=>by simp at h
 |a::r,0,0,x,_,_,_=>rfl
 |a::r,0,j+1,x,hn,h1,h2=>by
  grind
 |a::r,i+1,0,x,hn,h1,h2=>by
  grind
 |a::r,i+1,j+1,x,hn,h1,h2=>by
  simp at h1 h2;rw[alH]at hn;rw[sa hn.2 h1 h2]
theorem IC(hp:Hp F own w h){s:SV}{u:Value}{F1:Nat->Prop}(hF1:(∀ b,F1 b↔dg F own b)\/((∀ b,F1 b↔F b)/\jo 3 s=true))(hb:Below w.heap.size w w')(hh:Handed F1 w ee w' s u):
  ∃ X2,Hp F X2 w' (h++a6 3 s)/\Fr { w:=w,own:=own} X2 w'/\Rel F X2 w' (jp 3 h.length s) u/\∀ id,id<h.length->X2 id=own id:=by
 have hFF:∀ b,F b->F1 b:=λb hf=>by
  rcases hF1 with h1| ⟨h1,_⟩;exact(h1 b).2 (.inl hf);exact(h1 b).2 hf
 let X2:Own:=λid=>if id<h.length then own id else ee (id - h.length)
 have o1:∀ id hd,X2 id=some hd->(id<h.length/\own id=some hd)\/(h.length<=id/\ee (id - h.length)=some hd):=λid hd e=>by
  simp only[X2]at e;split at e
  rename_i hlt;exact .inl ⟨hlt,e⟩;rename_i hlt;exact .inr ⟨by omega,e⟩
 have o2:∀ id hd,own id=some hd->X2 id=some hd:=λid hd e=>by
  simp only[X2];rw[if_pos (hp.dom id hd e)];exact e
 have o3:∀ id hd,ee id=some hd->X2 (id+h.length)=some hd:=λid hd e=>by
  simp only[X2];rw[if_neg (by omega),ans];exact e
 have fr:Fr { w:=w,own:=own} X2 w':=Fr.apr (λid hd e=>⟨hd,o2 id hd e,.refl _⟩) (λid hd b e E=>by
   rcases o1 id hd e with⟨_,e⟩ | ⟨_,e⟩;exact .inl ⟨id,hd,e,E⟩;exact .inr (hh.fresh _ hd b e E)) (λb hbl _=>hb.block b hbl) hb.size hb.os hb.tape hb.output
 have g:ao_ F own w X2 w':=fr.apg;have X:(∀ b,¬dg F1 ee b->¬dg F X2 b)\/jo 3 s=true:=by
  rcases hF1 with h1| ⟨_,h2⟩;left;rintro b hn (hf| ⟨id,hd,e,E⟩);exact hn (.inl (hFF b hf));rcases o1 id hd e with⟨_,e⟩ | ⟨_,e⟩;exact hn (.inl ((h1 b).2 (.inr ⟨id,hd,e,E⟩)));exact hn (.inr ⟨_,hd,e,E⟩);exact .inr h2
 refine⟨X2,⟨λid hd e=>?_,λb hf=>ale (hp.aoB b hf) hb.size,λid hd b e E=>?_,λi j hi hj b V W hb1 Y=>?_,λid hd b e E=>?_,λid O=>?_⟩,fr,?_,λid hlt=>by simp only[X2];rw[if_pos hlt]⟩;rcases o1 id hd e with⟨hlt,_⟩ | ⟨hge,e⟩;rw[ak9];omega;have:=hh.hp.dom _ hd e;rw[ak9];omega;rcases o1 id hd e with⟨_,e⟩ | ⟨_,e⟩;exact hp.apart id hd b e E;exact λhf=>hh.hp.apart _ hd b e E (hFF b hf);rcases o1 i hi V with⟨l1,V⟩ | ⟨l1,V⟩ <;>rcases o1 j hj W with⟨l2,W⟩ | ⟨l2,W⟩;exact hp.inj i j hi hj b V W hb1 Y;have:=hp.lt i hi b V hb1;have:=hh.fresh _ hj b W Y;omega;have:=hp.lt j hj b W Y;have:=hh.fresh _ hi b V hb1;omega;have:=hh.hp.inj _ _ hi hj b V W hb1 Y;omega;rcases o1 id hd e with⟨_,e⟩ | ⟨_,e⟩;exact ale (hp.lt id hd b e E) hb.size;exact hh.hp.lt _ hd b e E;rw[sA]at O |-;by_cases hlt:id<h.length
 rw[if_pos hlt]at O |-;obtain⟨hd,V,W⟩:=hp.obs id O;exact⟨hd,o2 id hd V,W.carry g.apb hb.size λb E=>hb.block b (hp.lt id hd b V E)⟩;rw[if_neg hlt]at O |-;obtain⟨hd,V,W⟩:=hh.hp.obs _ O;obtain⟨q1,q2⟩:=zg 3 s _ (Ml O);have e3:=o3 _ hd V;rw[Nat.sub_add_cancel (by omega)]at e3;exact⟨hd,e3,W.aoQ q1 (X.imp (λh=>h) q2)⟩;have:=EQ (F':=F) (X2:=X2) (m:=h.length) o3 3 0 s u hh.val (X.imp (λhk c hc=>hk c λho=>hc (.inl ho)) id)
 rwa[ak8]at this
variable {G:Cons}
theorem J6(hG:aot P G)(O:Hp F own w h){args:List SV}{vs:Array Value}(hr:aoX F own w args vs){c:Con}(hc:G.p f (args.map (gi h 6))=some c)(E:an c)
  (V:args.all (dD 3)=true\/∀ s,dZ c s->jo 3 s=true):
  (callFunc f vs).run P w=.ok (.enter f vs) w/\Calls P f vs w (λe w'=>(∃ s u X2,dZ c s/\e=.returned u/\Hp F X2 w' (h++a6 3 s)/\Fr { w:=w,own:=own} X2 w'/\Rel F X2 w' (jp 3 h.length s) u/\Below w.heap.size w w'/\∀ id,id<h.length->X2 id=own id)\/(∃ x,kZ c x/\e=.panicked [{ v:=x,recovered:=false}]/\Below w.heap.size w w')):=by
 refine⟨(hG.p f).enter _ c hc vs w,?_⟩;rcases V with X|hsc;have hpf:∀ (j:Nat) (s:SV),args[j]? =some s->PF s:=λj s W=>by
  rw[alA]at X;exact gO 3 s (X s (alf W))
 refine((hG.p f).calls _ c hc E (dg F own) w vs (λb hb=>?_) ⟨by simpa using hr.1,λj s W=>?_⟩).mono ?_;rcases hb with hf| ⟨id,hd,e,hbb⟩;exact O.aoB b hf;exact O.lt id hd b e hbb;obtain⟨x,Y,rfl⟩:=ox W;exact Uq 6 x _ (hpf j x Y) (hr.2 j x Y);rintro e w' (⟨s,u,ee,h1,h2,h3,h4⟩ |hp');obtain⟨X2,q1,q2,q3,q4⟩:=IC O (.inl λb=>aor) h4 h3;grind
 grind
 refine((hG.p f).calls _ c hc E F w vs O.aoB ⟨by simpa using hr.1,λj s W=>?_⟩).mono ?_;obtain⟨x,Y,rfl⟩:=ox W;exact Af O 6 x _ (hr.2 j x Y);rintro e w' (⟨s,u,ee,h1,h2,h3,h4⟩ |hp');obtain⟨X2,q1,q2,q3,q4⟩:=IC O (.inr ⟨λb=>aor,hsc s h1⟩) h4 h3;grind
 grind
theorem pz:∀ (ids:List Nat) (id k:Nat),y7 id ids=some k->ids[k]? =some id
 | [],id,k,h=>by simp[y7]at h
 |a::r,id,k,h=>by
  simp only[y7]at h;cases O:Nat.beq a id with
  |true=>simp_all <;>grind
  |false=>
   rw[O]at h;simp only[cond_false]at h;cases E:y7 id r with
   |none=>grind|some j=>rw[E]at h;simp at h;subst h;simpa using pz r id j E
theorem wZ (n:Nat):∀ l:List Nat,De n l=true↔n∈l
 | [] =>by simp[De]
 |m::r=>by
  simp only[De];cases E:Nat.beq m n with
  |true=>simp_all
  |false=>
   have:m≠n:=λe=>by simp_all
   simp only[cond_false,wZ n r,ala];grind
theorem qI (h:List Ob):∀ (n:Nat) (O E:List Nat),E.Nodup->(reach h n O E).Nodup
 |0,_,E,hn=>hn|n+1,[],E,hn=>hn
 |n+1,id::O,E,hn=>by
  simp only[reach];cases X:De id E with
  |true=>exact qI h n _ _ hn
  |false=>
   refine qI h n _ _ ?_;rw[amm];refine⟨hn,by simp,λa W b V=>?_⟩;simp at V;subst V;rintro rfl;have:=(wZ a E).2 W;grind
structure Rn (m:Nat->Option Nat)(own ee:Own):Prop where
 ids:∀ i j hd,m i=some j->own i=some hd->∃ hd',ee j=some hd'/\hd.like hd'
variable {m:Nat->Option Nat}
theorem DS(hm:Rn m own ee)(ho:∀ b,¬dg F own b->¬dg F' ee b):∀ (n:Nat) (s:SV) (v:Value),Rel F own w s v->Rel F' ee w (ren m n s) v:=by
 have base:∀ (n:Nat) (s:SV) (v:Value),Rel F own w s v->(∀ l o,s≠ .ep l o)->(∀ z l,s≠ .ls z l)->(∀ l,s≠ .agg l)->(∀ l,s≠ .tup l)->(∀ f l m,s≠ .fn f l m)->Rel F' ee w (ren m n s) v:=by
  intro n s v hr n1 n2 n3 n4 n5;have V:∀ {id:Nat} {hd:Hd} {f:Nat->SV} {v:Value},own id=some hd->(∀ j hd',ee j=some hd'->hd.like hd'->Rel F' ee w (f j) v)->Rel F' ee w (zV f (m id)) v:=by
   intro id hd f v h1 h2;cases hm':m id with
   |none=>exact .any _
   |some j=>
    obtain⟨hd',E,O⟩:=hm.ids id j hd hm' h1;exact h2 j hd' E O
  cases hr with
  |any=>cases n <;>exact .any _|v x=>cases n <;>exact .v _
  |ptr h1 h2=>cases n <;>exact V h1 λj hd' E O=>.ptr E (O.1.trans h2)
  |os h1 h2=>cases n <;>exact V h1 λj hd' E O=>by rw[<-O.2.1]at h2 |-;exact .os E h2
  |e0=>cases n <;>exact .e0|rc W=>cases n <;>exact .rc (W.aoQ .rs ho)
  |rp h1 h2 X=>cases n <;>exact V h1 λj hd' E O=>.rp E (O.2.1.trans h2) X
  |gr h1 h2 X=>cases n <;>exact V h1 λj hd' E O=>.gr E (by rw[O.2.2];exact h2) X
  |vw h1 h2 X=>cases n <;>exact V h1 λj hd' E O=>.vw E (by rw[O.2.1];exact h2) X
  |gp h1 h2 X=>cases n <;>exact V h1 λj hd' E O=>.gp E (by rw[O.2.2];exact h2) X
  |ep=>grind|rs c W h0' h1 h2=>cases n <;>exact Rel.aoQ (.rs c W h0' h1 h2) .rs ho|rs0=>cases n <;>exact .rs0|ls=>grind|rm ck cv es clock W h1 h2 X h4 h5=>cases n <;>exact Rel.aoQ (.rm ck cv es clock W h1 h2 X h4 h5) .rm ho|rm0=>cases n <;>exact .rm0|agg=>grind|tup=>grind|fn=>grind
 intro n;induction n with
 |zero=>
  intro s v hr;cases s <;>first|exact .any _|(refine base 0 _ _ hr ?_ ?_ ?_ ?_ ?_ <;>intros <;>(intro e;cases e)) |cases hr
 |succ n ih=>
  intro s v hr;cases s with
  |ep l o=>
   cases hr with
   |ep c h1 h2=>
    simp only[ren];exact .ep c (λj s Y=>by grind) (λj s Y=>by grind)
  |ls z l=>
   cases hr with
   |ls c hz W h1 h2=>
    simp only[ren];have:=Rel.ls (F:=F') (own:=ee) (w:=w) (z:=z) (l:=l.map (ren m n)) c (by simpa using hz) W (λj s Y=>by obtain⟨x,hx,rfl⟩:=ox Y;exact⟨ho _ (h1 j x hx).1,(h1 j x hx).2⟩) (λj s Y=>by grind);grind
  |agg l=>cases hr with|agg W h1=>simp only[ren];exact .agg (by grind) λj s Y=>by grind
  |tup l=>cases hr with|tup W h1=>simp only[ren];exact .tup (by grind) λj s Y=>by grind
  |fn f l l2=>cases hr with|fn W h0' h1 h2=>simp only[ren];exact .fn (by grind) (by grind) (λj s Y=>by grind) λj s Y=>by grind
  |_=>first|(refine base (n+1) _ _ hr ?_ ?_ ?_ ?_ ?_ <;>intros <;>(intro e;cases e)) |cases hr
theorem ES(hm:Rn m own ee)(ho:∀ b,¬dg F own b->¬dg F' ee b)(ho2:∀ b,b<w.heap.size->dg F' ee b->dg F own b){hd:Hd}{o:Ob}(h:ao5 F own w hd o):ao5 F' ee w hd (vj m o):=by
 cases o with
 |cells l=>obtain⟨b,cs,ty,h1,h2,V,h4,h5⟩:=h;exact⟨b,cs,ty,h1,h2,V,by grind,λj s Y=>by grind [DS]⟩
 |dead=>trivial|row k l=>exact aoO.aoQ h (.inl ho)
 |mp kk vk l apj=>
  obtain⟨b,es,clk,h1,h2,V,h4,h5,h6⟩:=h;have E:apw F' ee w kk vk (eI kk vk l apj) es:=⟨h4.1,λi x hi=>by
   obtain⟨e,W,X,e3,e4⟩:=h4.2 i x hi;exact⟨e,W,X,e3.aoQ (ua _ _) ho,e4.aoQ (ua _ _) ho⟩⟩
  match apj,E,h6 with
  |none,E,_=>exact⟨b,es,clk,h1,h2,V,E,h5,trivial⟩
  |some (i,none),E,h6=>
   show ao5 F' ee w hd (Ox kk vk l none (m i));cases hmi:m i with
   |none=>exact⟨b,es,clk,h1,h2,V,E,h5,trivial⟩
   |some k=>
    obtain⟨O,t1,t2⟩:=h6;obtain⟨hd3,W,X⟩:=hm.ids i k O hmi t1;exact⟨b,es,clk,h1,h2,V,E,h5,hd3,W,X.2.2.trans t2⟩
  |some (i,some x),E,h6=>
   show ao5 F' ee w hd (Ox kk vk l (some x) (m i));cases hmi:m i with
   |none=>exact λj Y=>by cases Y
   |some k=>
    obtain⟨O,e,t1,t2,t3⟩:=h6;obtain⟨hd3,W,X⟩:=hm.ids i k O hmi t1;exact⟨b,es,clk,h1,h2,V,E,h5,hd3,e,W,t2,X.2.1.trans t3⟩
 |aoV k l=>
  rcases h with h| ⟨b,o,cap,cs,ty,bs,h1,h2,V,h4,h5,h6,h7,h8,h9⟩;exact .inl h;exact .inr ⟨b,o,cap,cs,ty,bs,h1,h2,V,h4,h5,h6,h7,h8,h9.aoQ (.inl ho)⟩
 |ab r=>
  refine⟨h.1,r.loc _ _ _ w w h.2 (ak2 _) (λb hbl hn=>rfl) (λb hbl hn=>⟨ho2 b hbl hn.1,hn.2⟩)⟩
 |raw o=>exact h
 |mi mid n left cur=>
  obtain⟨b,h1,h2,V⟩:=h;refine⟨b,h1,h2,λj Y=>?_⟩;cases mid with
  |none=>cases Y
  |some i=>
   obtain⟨hdm,bm,seen,c0,ss,k1,k2,k3,k4⟩:=V i rfl;obtain⟨hd',W,X⟩:=hm.ids i j hdm Y k1;exact⟨hd',bm,seen,c0,ss,W,X.2.1.trans k2,k3,k4⟩
 |fwd n=>
  cases n with
  |none=>intro j Y;cases Y
  |some i=>
   intro j Y;obtain⟨O,k1,k2,k3⟩:=h i rfl;obtain⟨hd',W,X⟩:=hm.ids i j O Y k1;exact⟨hd',W,X.2.1.trans k2,k3⟩
 |fz k l=>exact Rel.aoQ h .rs ho
theorem vB (m:Nat->Option Nat)(o:Ob):dL (vj m o)=dL o:=by
 cases o with
 |mp kk E l p=>
  match p with
  |none=>rfl
  |some (i,q) =>
   show dL (Ox kk E l q (m i))=false;cases q <;>cases m i <;>rfl
 |_=>rfl
theorem X7(hp:Hp F own w h)(ids:List Nat)(hn:ids.Nodup):
  ∃ (Fm:Nat->Prop) (O:Own),Hp Fm O w (rK h ids)/\(∀ b,dg Fm O b↔dg F own b)/\Rn (inN ids) own O/\(∀ b,Fm b↔(F b\/∃ id hd,id ∉ ids/\own id=some hd/\b∈hd.bs))/\(∀ k id,ids[k]? =some id->O k=own id)/\(∀ k,ids.length<=k->O k=none):=by
 let O:Own:=λk=>match ids[k]? with|some id=>own id|none=>none
 let Fm:Nat->Prop:=λb=>F b\/∃ id hd,id ∉ ids/\own id=some hd/\b∈hd.bs
 have o1:∀ k id,ids[k]? =some id->O k=own id:=λk id e=>by grind
 have o2:∀ k,ids.length<=k->O k=none:=λk e=>by grind
 have o3:∀ k hd,O k=some hd->∃ id,ids[k]? =some id/\own id=some hd:=λk hd e=>by
  grind
 have inj:∀ i j id,ids[i]? =some id->ids[j]? =some id->i=j:=λi j id Y V=>sa hn Y V;have hB:∀ b,dg Fm O b↔dg F own b:=λb=>by
  constructor
  rintro ((X| ⟨id,hd,_,e,E⟩) | ⟨k,hd,e,E⟩);exact .inl X;exact .inr ⟨id,hd,e,E⟩;obtain⟨id,_,V⟩:=o3 k hd e;exact .inr ⟨id,hd,V,E⟩;rintro (X| ⟨id,hd,e,E⟩);exact .inl (.inl X);by_cases hm:id∈ids
  obtain⟨k,hk⟩:=alS hm;exact .inr ⟨k,hd,by grind,E⟩;exact .inl (.inr ⟨id,hd,hm,e,E⟩)
 have rn:Rn (inN ids) own O:=⟨λi j hd hm e=>⟨hd,by rw[o1 j i (pz ids i j hm)];exact e,.refl _⟩⟩;refine⟨Fm,O,⟨λk hd e=>?_,λb X=>?_,λk hd b e E=>?_,λi j hi hj b Y V hb1 W=>?_,λk hd b e E=>?_,λk hdd=>?_⟩,hB,rn,λb=>aor,o1,o2⟩;grind [rK]
 rcases X with X| ⟨id,hd,_,e,E⟩;exact hp.aoB b X;exact hp.lt id hd b e E;obtain⟨id,Y,V⟩:=o3 k hd e;rintro (X| ⟨id',hd',hn',e',hbb'⟩);exact hp.apart id hd b V E X;exact hn' (hp.inj id' id hd' hd b e' V hbb' E▸alf Y);obtain⟨id1,q1,q2⟩:=o3 i hi Y;obtain⟨id2,q3,q4⟩:=o3 j hj V;have:=hp.inj id1 id2 hi hj b q2 q4 hb1 W;grind
 obtain⟨id,Y,V⟩:=o3 k hd e;exact hp.lt id hd b V E;have hk:∃ id,ids[k]? =some id/\ap (rK h ids) k=vj (inN ids) (ap h id):=by
  grind [vp,rK,dL]
 obtain⟨id,hid,ho⟩:=hk;rw[ho]at hdd |-;rw[vB]at hdd;obtain⟨hd,Y,V⟩:=hp.obs id hdd;exact⟨hd,by grind,ES rn (λb hb W=>hb ((hB b).1 W)) (λb _ W=>(hB b).1 W) V⟩
theorem qJ {ids:List Nat}{b k:Nat}(E:k<ids.length):ids[k]? =some (kc ids b k):=by
 grind [kc,gC]
theorem uF {ids:List Nat}{b k:Nat}(E:ids.length<=k):kc ids b k=b+(k - ids.length):=by
 grind [kc,gC]
theorem Us (ids:List Nat)(b k:Nat):rH ids b k=some (kc ids b k):=by
 grind [rH,kc]
theorem Sp{ids:List Nat}(hn:ids.Nodup){b:Nat}(O:∀ id∈ids,id<b){i:Nat}(h:kc ids b i=kc ids b j):i=j:=by
 rcases ama i ids.length with hi|hi <;>rcases ama j ids.length with hj|hj;have E:=qJ (b:=b) hi;have V:=qJ (b:=b) hj;grind [sa]
 have E:=O _ (alf (qJ (b:=b) hi));grind [uF];have E:=O _ (alf (qJ (b:=b) hj));grind [uF];grind [uF]
theorem ET {ids:List Nat}(hn:ids.Nodup){b:Nat}(hb:∀ id∈ids,id<b):∀ (E:List Ob) (h:List Ob) (k:Nat),b<=h.length->(ids.length<=k->h.length=b+(k - ids.length))->(k<ids.length->h.length=b)->
  (∀ i,k<=i->i<k+E.length->ap (mL ids b h k E) (kc ids b i)=vj (rH ids b) (ap E (i - k)))/\
  (∀ id,(∀ i,k<=i->i<k+E.length->kc ids b i≠id)->ap (mL ids b h k E) id=ap h id)/\h.length<=(mL ids b h k E).length/\(∀ i,k<=i->i<k+E.length->kc ids b i< (mL ids b h k E).length)
 | [],h,k,_,_,_=>⟨λi h1 h2=>by grind,λid _=>rfl,ak2 _,λi h1 h2=>by grind⟩
 |o::r,h,k,hlen,hge,hlt=>by
  simp only[mL];have hstep:(cL h (kc ids b k) (vj (rH ids b) o)).length=(if k<ids.length then h.length else h.length+1)/\kc ids b k< (cL h (kc ids b k) (vj (rH ids b) o)).length:=by
   rcases ama k ids.length with hk|hk;have:=hb _ (alf (qJ (b:=b) hk));simp_all [cI];simp_all [cI,uF]
  have O:b<=(cL h (kc ids b k) (vj (rH ids b) o)).length:=by grind
  obtain⟨q1,Y,q3,q4⟩:=ET hn hb r (cL h (kc ids b k) (vj (rH ids b) o)) (k+1) O (λhk=>by
    grind) (λhk=>by grind)
  have W:∀ i,k+1<=i->kc ids b i≠kc ids b k:=λi hi e=>by grind [Sp]
  refine⟨λi h1 h2=>?_,λid V=>?_,ald (by grind) q3,λi h1 h2=>?_⟩;by_cases X:i=k
  subst X;rw[Y _ (λj hj _=>W j hj),dG,if_pos rfl,amY];rfl;rw[q1 i (by omega) (by grind),show i - k=(i - (k+1))+1 by omega];rfl;rw[Y id (λi h1 h2=>V i (by omega) (by simp;omega)),dG,if_neg (V k (ak2 _) (by simp))];grind
theorem ID(hp:Hp F own w h){ids:List Nat}(hn:ids.Nodup)(apW:∀ id∈ids,id<h.length){Fm:Nat->Prop}{om O:Own}(hpm:Hp Fm om w (rK h ids))(hB:∀ b,dg Fm om b↔dg F own b)(W:∀ b,Fm b↔(F b\/∃ id hd,id ∉ ids/\own id=some hd/\b∈hd.bs))(ho1:∀ k id,ids[k]? =some id->om k=own id)
  {h':List Ob} (X:Hp Fm O w' h') (fr:Fr { w:=w,own:=om} O w') (hlen:ids.length<=h'.length):
  ∃ X2,Hp F X2 w' (mL ids h.length h 0 h')/\Fr { w:=w,own:=own} X2 w'/\∀ s v,Rel Fm O w' s v->Rel F X2 w' (ren (rH ids h.length) 3 s) v:=by
 let L:=h.length
 let X2:Own:=λid=>match y7 id ids with|some k=>O k|none=>if L<=id then O (ids.length+(id - L))else own id
 have posN_of:∀ k id,ids[k]? =some id->y7 id ids=some k:=by
  intro k id e;cases hpn:y7 id ids with
  |none=>
   exfalso;have:∀ (l:List Nat),id∈l->y7 id l≠none:=by
    intro l;induction l with
    |nil=>grind
    |cons a r ih=>
     intro hm;simp only[y7];cases hb:Nat.beq a id with
     |true=>simp
     |false=>
      simp only[cond_false];have:id∈r:=by
       rcases ala.1 hm with e|e <;>simp_all
      simp_all
   grind
  |some j=>
   have Y:=pz ids id j hpn;rw[sa hn e Y]
 have b1:∀ k,X2 (kc ids L k)=O k:=by
  intro k;rcases ama k ids.length with hk|hk;have:=posN_of k _ (qJ (b:=L) hk);grind
  have hge:=uF (b:=L) hk;have hnone:y7 (kc ids L k) ids=none:=by
   cases hpn:y7 (kc ids L k) ids with
   |none=>rfl
   |some j=>
    have:=apW _ (alf (pz ids _ j hpn));omega
  grind
 have b2:∀ id hd,X2 id=some hd->(∃ k,id=kc ids L k/\O k=some hd)\/(id ∉ ids/\id<L/\own id=some hd):=by
  grind [pz,qJ,uF,List.getElem?_of_mem]
 have b3:∀ id hd,id ∉ ids->own id=some hd->X2 id=some hd:=by
  intro id hd hm e;have hlt:=hp.dom id hd e;grind [pz]
 have hold:∀ b,b<w.heap.size->(¬ ∃ k hd,om k=some hd/\b∈hd.bs)->w'.heap[b]? =w.heap[b]?:=λb hb hn=>fr.block b ⟨hb,hn⟩;have omB:∀ k hd b,om k=some hd->b∈hd.bs->∃ id hd',own id=some hd'/\b∈hd'.bs:=λk hd b e E=>by
  rcases(hB b).1 (.inr ⟨k,hd,e,E⟩)with hf|ho;exact absurd ((W b).2 (.inl hf)) (hpm.apart k hd b e E);exact ho
 have fr2:Fr { w:=w,own:=own} X2 w':=by
  refine Fr.apr (λid hd e=>?_) (λid hd b e E=>?_) (λb hb V=>hold b hb λ⟨k,hd,e,E⟩ =>V (omB k hd b e E)) fr.size fr.os fr.tape fr.output;by_cases hm:id∈ids
  obtain⟨k,hk⟩:=alS hm;obtain⟨hd',e1,Y⟩:=fr.ids k hd (by grind);grind
  exact⟨hd,b3 id hd hm e,.refl _⟩;rcases b2 id hd e with⟨k,hk,e⟩ | ⟨_,_,e⟩;rcases ama b w.heap.size with hlt|hge;left;have V:=fr.base k hd b e E;have:∃ k2 hd2,om k2=some hd2/\b∈hd2.bs:=alD λhc=>V ⟨hlt,hc⟩;grind
  omega;grind
 have rn:Rn (rH ids L) O X2:=⟨λi j hd hm e=>⟨hd,by
  grind [Us],.refl _⟩⟩
 have k1:∀ b,¬dg Fm O b->¬dg F X2 b:=by
  rintro b V (hf| ⟨id,hd,e,E⟩);exact V (.inl ((W b).2 (.inl hf)));rcases b2 id hd e with⟨k,_,e⟩ | ⟨hm,_,e⟩;exact V (.inr ⟨k,hd,e,E⟩);exact V (.inl ((W b).2 (.inr ⟨id,hd,hm,e,E⟩)))
 have k2:∀ b,dg F X2 b->dg Fm O b:=by
  grind
 obtain⟨q1,q2,q3,q4⟩:=ET hn apW h' h 0 (ak2 _) (λhk=>by
   omega) (λ_=>rfl)
 refine⟨X2,⟨λid hd e=>?_,λb hf=>ale (hp.aoB b hf) fr.size,λid hd b e E=>?_,λi j hi hj b e1 Y hb1 hb2=>?_,λid hd b e E=>?_,λid hdd=>?_⟩,fr2,λs v hr=>DS rn k1 3 s v hr⟩;rcases b2 id hd e with⟨k,hk,e⟩ | ⟨_,hlt,_⟩;rw[hk];exact q4 k (alB _) (by have:=X.dom k hd e;omega);omega;rcases b2 id hd e with⟨k,_,e⟩ | ⟨_,_,e⟩;exact λhf=>X.apart k hd b e E ((W b).2 (.inl hf));exact hp.apart id hd b e E;rcases b2 i hi e1 with⟨ki,hki,e1⟩ | ⟨m1,_,e1⟩ <;>rcases b2 j hj Y with⟨kj,hkj,Y⟩ | ⟨m2,_,Y⟩;rw[hki,hkj,X.inj ki kj hi hj b e1 Y hb1 hb2];exact absurd ((W b).2 (.inr ⟨j,hj,m2,Y,hb2⟩)) (X.apart ki hi b e1 hb1);exact absurd ((W b).2 (.inr ⟨i,hi,m1,e1,hb1⟩)) (X.apart kj hj b Y hb2);exact hp.inj i j hi hj b e1 Y hb1 hb2;rcases b2 id hd e with⟨k,_,e⟩ | ⟨_,_,e⟩;exact X.lt k hd b e E;exact ale (hp.lt id hd b e E) fr.size;by_cases hk:∃ k,k<h'.length/\kc ids L k=id
 obtain⟨k,hkl,rfl⟩:=hk;rw[q1 k (alB _) (by omega),Nat.sub_zero]at hdd |-;rw[vB]at hdd;obtain⟨hd,e1,Y⟩:=X.obs k hdd;exact⟨hd,by grind,ES rn k1 (λb _=>k2 b) Y⟩;have V:∀ i,0<=i->i<0+h'.length->kc ids L i≠id:=λi _ hi e=>hk ⟨i,by omega,e⟩;rw[q2 id V]at hdd |-;obtain⟨hd,e1,Y⟩:=hp.obs id hdd;have hm:id ∉ ids:=λhm=>by
  grind [List.getElem?_of_mem,qJ]
 refine⟨hd,b3 id hd hm e1,Y.carry (fr2.apg (F:=F)).apb fr.size λb E=>hold b (hp.lt id hd b e1 E) ?_⟩;rintro⟨k,hd',e',hb'⟩;exact hpm.apart k hd' b e' hb' ((W b).2 (.inr ⟨id,hd,hm,e1,E⟩))
theorem Mm(hG:aot P G)(hp:Hp F own w h){args:List SV}{vs:Array Value}(hr:aoX F own w args vs){ids:List Nat}(hn:ids.Nodup){c:aoJ}(hc:G.o f (args.map (ren (inN ids) 6)) (rK h ids)=some c)(X:c.pre)(E:∀ id∈ids,id<h.length):
  (callFunc f vs).run P w=.ok (.enter f vs) w/\Calls P f vs w (λe w'=>∃ r X2,c.post r/\match c.res r with
   | .ret s h'=>(∃ u,e=.returned u/\Rel F X2 w' (ren (rH ids h.length) 3 s) u)/\Hp F X2 w' (mL ids h.length h 0 h')/\Fr { w:=w,own:=own} X2 w'
   | .pan x h'=>e=.panicked [{ v:=x,recovered:=false}]/\Hp F X2 w' (mL ids h.length h 0 h')/\Fr { w:=w,own:=own} X2 w'):=by
 refine⟨(hG.o f).enter _ _ c hc vs w,?_⟩;obtain⟨Fm,om,V,hB,rn,W,o1,o2⟩:=X7 hp ids hn;refine((hG.o f).calls _ _ c hc X Fm om w vs V ⟨by simpa using hr.1,λj s hj=>?_⟩).mono ?_;obtain⟨x,hx,rfl⟩:=ox hj;exact DS rn (λb hb Y=>hb ((hB b).1 Y)) 6 x _ (hr.2 j x hx);rintro e w' ⟨r,ee,h1,h2⟩;have hml:(rK h ids).length=ids.length:=by simp[rK]
 cases O:c.res r with
 |ret s h'=>
  rw[O]at h2;obtain⟨⟨u,q1,q2⟩,q3,q4,q5⟩:=h2;obtain⟨X2,k1,k2,k3⟩:=ID hp hn E V hB W o1 q3 q4 (by omega);exact⟨r,X2,h1,by grind⟩
 |pan x h'=>
  rw[O]at h2;obtain⟨q1,q3,q4,q5⟩:=h2;obtain⟨X2,k1,k2,k3⟩:=ID hp hn E V hB W o1 q3 q4 (by omega);exact⟨r,X2,h1,by grind⟩
theorem Mn(hG:aot P G)(O:Hp F own w h){id:Nat}{hd:Hd}(E:own id=some hd){args:List SV}{vs:Array Value}(hr:aoX F own w args vs)(hnp:args.all (dD 3)=true){r:Res}(ho:ap h id=.ab r){c:apR}(hc:G.y args r=some c)(hpre:c.pre):
  ZG P hd.v vs w (λe w'=>∃ a X2,c.post a/\e=.returned (.bool (c.res a).1)/\Hp F X2 w' (cL h id (.ab (c.res a).2))/\Fr { w:=w,own:=own} X2 w'):=by
 obtain⟨hd',e0,hv,hR⟩:=O.at ho rfl;rw[E]at e0;cases e0;have hlt:=O.dom id hd E;let F1:Nat->Prop:=λb=>dg F own b/\b ∉ hd.bs
 have hF1:∀ b,F1 b->b<w.heap.size:=by
  rintro b ⟨X| ⟨id',hd',e,hbb⟩,_⟩;exact O.aoB b X;exact O.lt id' hd' b e hbb
 have hy:=hG.y args r c hc hpre F1 hd.bs w vs hR hF1 (λb hb=>⟨O.lt id hd b E hb,λX=>X.2 hb⟩) ⟨hr.1,λj s hj=>by
  rw[alA]at hnp;refine(hr.2 j s hj).aoQ (gO 3 s (hnp s (alf hj))) λb hb=>n8 ?_;rintro (X|hbb);exact hb X.1;exact hb (.inr ⟨id,hd,E,hbb⟩)⟩
 rw[hv];have mono:∀ (e:Ending) (w':World),(∃ a bs',c.post a/\e=.returned (.bool (c.res a).1)/\(c.res a).2.R F1 bs' w'/\(c.res a).2.yv=r.yv/\YFr hd.bs bs' w w')->∃ a X2,c.post a/\e=.returned (.bool (c.res a).1)/\Hp F X2 w' (cL h id (.ab (c.res a).2))/\Fr { w:=w,own:=own} X2 w':=by
  rintro e w' ⟨a,bs',h1,h2,h3,h4,Y⟩;let hd2:Hd:= { hd with bs:=bs'}
  have fr:Fr { w:=w,own:=own} (own.set id hd2) w':=Fr.apr (λi hi e=>by
    by_cases hii:i=id
    subst hii;rw[E]at e;cases e;exact⟨hd2,Own.aoY _ _ _,rfl,rfl,rfl⟩;exact⟨hi,by grind [Own.ao3],.refl _⟩) (λi hi b e hbb=>by
    by_cases hii:i=id
    subst hii;rw[Own.aoY]at e;cases e;rcases(Y.bs b hbb).2 with hb|hb <;>grind;grind [Own.ao3]) (λb hb hn=>Y.block b hb λV=>hn ⟨id,hd,E,V⟩) Y.size Y.os Y.tape Y.output
  refine⟨a,own.set id hd2,h1,h2,O.upd fr.apg (· =id) (by rw[cI,if_pos hlt];omega) (λi hi=>⟨Own.ao3 _ _ hi,by rw[dG,if_neg (λe=>hi e.symm)],λhd' b e hbb=>Y.block b (O.lt i hd' b e hbb) λV=>hi (O.inj i id hd' hd b e E hbb V)⟩) (λi hd' hi e=>?_) (λi hi _=>?_),fr⟩;subst hi;rw[Own.aoY]at e;cases e;refine⟨by simp_all [cI],λb hb=>⟨(Y.bs b hb).1,λX=>?_,λj hj hne e W=>?_⟩⟩;rcases(Y.bs b hb).2 with V|hge;exact O.apart _ hd b E V X;have:=O.aoB b X;omega;rw[Own.ao3 _ _ hne]at e;rcases(Y.bs b hb).2 with V|hge;exact hne (O.inj j _ hj hd b e E W V);have:=O.lt j hj b e W;omega;subst hi;refine⟨hd2,Own.aoY _ _ _,?_⟩;rw[dG,if_pos rfl];refine⟨hv.trans h4.symm,(c.res a).2.loc _ _ _ w' w' h3 (ak2 _) (λ_ _ _=>rfl) ?_⟩;rintro b _ ⟨X| ⟨j,hj,e,W⟩,hnb⟩;exact⟨.inl X,λV=>O.apart _ hd b E V X⟩;by_cases hji:j=i
  grind [Own.aoY]
  rw[Own.ao3 _ _ hji]at e;exact⟨.inr ⟨j,hj,e,W⟩,λV=>hji (O.inj j _ hj hd b e E W V)⟩
 rcases hy with⟨f,as,q1,q2⟩ | ⟨l,f,tmps,as,bd,q1,q2,q3⟩;exact .inl ⟨f,as,q1,q2.mono mono⟩;exact .inr ⟨l,f,tmps,as,bd,q1,q2,λcc cs hro=>by
  obtain⟨e,w',hR',rest⟩:=q3 cc cs hro;simp_all <;>grind⟩
end
end Go.Sx
end
