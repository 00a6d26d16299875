/- Part of the proof that the law RefuseLess returns true and leaves its arguments as they were, for all arguments of bulk at most 1048576 (the Upto form). -/
import Derived.Test.YtaikmgjfkejlkaaGreatF103
import Derived.TacticsIn
import Derived.OrdersIn
set_option linter.all false
set_option maxHeartbeats 4000000
set_option maxRecDepth 100000
section
namespace Go.Sx
open Go.RowKit
section
variable {P:Program}{F:Nat->Prop}{own:Own}{w:World}{ts:Tis}
def Sg (v:Value)(vs:Array Value):Sem Next:=do
 let d <-Deferred.ofValue v vs
 invoke d.target d.args
variable {t:TypeId}
theorem CI(w:World)(m:Nat){e:TypeId}(E:Option Addr)(n c:Nat)(hd:P.underlying t=some (.slice e)):(Op.equalIn (m+1) t (.slice E n c) (.slice none 0 0)).run P w=.ok E.isNone w:=by
 cases E <;>simp[Op.equalIn,run_underlying hd]
def Lw (P:Program)(F:Nat->Prop)(own:Own)(w:World)(h:List Ob)(run:Result Next):OR->Prop
 | .val s=>∃ u,run=.ok (.value u) w/\Rel F own w s u| .chk c s=>c->∃ u,run=.ok (.value u) w/\Rel F own w s u| .asm c s=>c/\∃ u,run=.ok (.value u) w/\Rel F own w s u| .apI s=>∃ u cs ty,run=.ok (.value u) (w.alloc (.cells cs ty))/\Rel F own (w.alloc (.cells cs ty)) s u| .eff c a ups s=>c->a/\∃ u bo w',(run=.ok (.value u) w'\/(run=.ok .skip w'/\u=undef))/\Rel F bo w' s u/\Step F own w (bf h ups) bo w'| .call f args=>∃ vs:Array Value,api F own w args vs/\run=(callFunc f vs).run P w| .yld id args=>∃ hd,own id=some hd/\∃ vs,api F own w args vs/\run=(Sg hd.v vs).run P w| .nxt id=>∃ hd b,own id=some hd/\hd.p=some b/\∃ ty,∀ u w',(Instr.next (.pointer (some ⟨b,0,none⟩)) false ty).run P w=.ok u w'->run=.ok (.value u) w'| .amb p=>∃ b,p b/\run=.ok (.value (.bool b)) w| .pan x=>run=.halt (.panic x) w| .bad=>True
theorem Lx {cx:Cx}{a:Act}(E:∀ x,Rel F own w (val cx x) (a.eval x)):∀ (l:List Operand),(dx cx l).length=l.length/\∀ (j:Nat) (s:SV),(dx cx l)[j]? =some s->∃ x,l[j]? =some x/\Rel F own w s (a.eval x)
 | [] =>⟨rfl,λj s h=>by simp[dx]at h⟩
 |x::r=>by
  obtain⟨h1,h2⟩:=Lx E r;grind [dx]
theorem uo {cx:Cx}{a:Act}(E:∀ x,Rel F own w (val cx x) (a.eval x))(l:Array Operand):api F own w (dx cx l.toList) (l.map a.eval):=by
 obtain⟨h1,h2⟩:=Lx E l.toList;refine⟨by simp[h1],λj s O=>?_⟩;simp_all <;>grind
theorem A4 {cx:Cx}{a:Act}(E:∀ x,Rel F own w (val cx x) (a.eval x)):∀ (l:List (Nat×Operand)),(iK cx l).map (·.1)=(l.map λ(i,x) =>(i,a.eval x)).map (·.1)/\
  ∀ (j:Nat) (x:Nat×SV) (y:Nat×Value),(iK cx l)[j]? =some x->(l.map λ(i,x) =>(i,a.eval x))[j]? =some y->Rel F own w x.2 y.2
 | [] =>⟨rfl,λj x y h=>by grind⟩
 |(i,x)::r=>by
  obtain⟨h1,h2⟩:=A4 E r;grind [iK]
variable {r:OR}
theorem cb{k:TI->OR}(E:ts.ok P)(h:aI ts t k=r)(U:r≠ .bad):∃ ti,ca P t=some ti/\k ti=r:=by
 unfold aI at h;cases O:ts t with
 |none=>grind|some i=>simp[O]at h;exact⟨i,E t i O,h⟩
variable {h:List Ob}
theorem ass{E:Result Next}(O:r≠ .bad->Lw P F own w h E r):Lw P F own w h E r:=by
 cases r with
 |bad=>trivial
 |_=>exact O (by simp)
theorem agf {s:Sem Value}{u:Value}(h:s.run P w=.ok u w):(do pure (Next.value (<-s)):Sem Next).run P w=.ok (.value u) w:=by
 simp[h]
variable {a:Operand}
theorem Ly(h:isTrue a=true):a=.const (.bool true):=by
 grind [isTrue]
theorem Js(h:isFalse a=true):a=.const (.bool false):=by
 grind [isFalse]
theorem nW{x:Option SV}(h:uf x=r)(E:r≠ .bad):∃ s,x=some s/\r=.val s:=by
 cases x with
 |none=>exact absurd h.symm E|some s=>exact⟨s,rfl,h.symm⟩
theorem uq{s:Sem Value}(E:Ci F own w h (s.run P w) r):Lw P F own w h ((do pure (Next.value (<-s)):Sem Next).run P w) r:=by
 obtain⟨c,a,ups,W,rfl,h1⟩:=E;intro hc;obtain⟨O,u,bo,w',h2,V,U⟩:=h1 hc;simp_all
theorem Lz{ti:TI}{s:SV}(e:qy ti h s=r)(U:r≠ .bad):∃ s',r=.val s':=by
 have V:∀ {a:Bool} {n off:Nat} {o:Ob},zt a n off o=r->∃ s',r=.val s':=by
  intro a n off o e;unfold zt at e;split at e
  obtain⟨s',_,h'⟩:=nW e U;grind;grind
 have O:∀ {a:Bool} {n z id off:Nat} {i:Int} {o:Ob},DI a n z id i off o=r->∃ s',r=.val s':=by
  intro a n z id off i o e;unfold DI at e;split at e
  rename_i k l;cases W:Nat.beq z (aa k)with
  |false=>grind
  |true=>rw[W]at e;obtain⟨s',_,h'⟩:=nW e U;grind
  grind
  grind
 have E:∀ {a:Bool} {n z off:Nat} {i j:Int} {o:Ob},AR a n z i j off o=r->∃ s',r=.val s':=by
  intro a n z off i j o e;unfold AR at e;split at e
  rename_i k l;cases W:Nat.beq z (aa k)with
  |false=>grind
  |true=>rw[W]at e;obtain⟨s',_,h'⟩:=nW e U;grind
  grind
 unfold qy at e;split at e
 grind
 obtain⟨s',_,h'⟩:=nW e U;grind;exact O e;exact E e;grind
theorem N6{n:Nat}{s:SV}(e:AS n s=r)(E:r≠ .bad):∃ s',r=.val s':=by
 unfold AS at e;grind
theorem zM {cx:Cx}{a:Act}(E:∀ x,Rel F own w (val cx x) (a.eval x))(o:Option Operand):(∀ s,ol cx o=some s->∃ u,o.map a.eval=some u/\Rel F own w s u)/\(ol cx o=none->o.map a.eval=none):=by
 cases o with
 |none=>grind [ol]|some x=>grind [ol]
variable {l:List SV}
def PW(O:Hp F own w h){nx:Nat}(V:apX own h nx){v:Value}{ty:TypeId}(E:api F own w l v.cells):Step F own w (bf h [(nx,Ob.cells l)]) (own.set nx ⟨some w.heap.size,undef,[],[w.heap.size]⟩) (w.alloc (.cells v.cells ty))/\Rel F (own.set nx ⟨some w.heap.size,undef,[],[w.heap.size]⟩) (w.alloc (.cells v.cells ty)) (.ptr nx 0) (.pointer (some ⟨w.heap.size,0,none⟩)):=
 ⟨ui O V (w1:=w) ⟨rfl,rfl,rfl,rfl⟩ (.cells v.cells ty) (.cells l) _ rfl λbo g=>⟨w.heap.size,v.cells,ty,rfl,rfl,kC _ _,E.1,λj s U=>(E.2 j s U).mono g⟩,.ptr (Own.apj _ _ _) rfl⟩
theorem api.app{m:List SV}{O vs:Array Value}(h1:api F own w l O)(h2:api F own w m vs):api F own w (l++m) (O++vs):=by
 refine⟨by simp[h1.1,h2.1],λj s E=>?_⟩;rw[amn]at E;split at E
 rename_i hlt;rw[tC (j:=j) (ws:=O) (by rw[alS (by rw[h1.1];exact hlt)])];exact h1.2 j s E;rename_i hlt;rw[tC (j:=j - O.size) (ws:=vs) (by rw[amR (by rw[h1.1];omega)])];rw[h1.1];exact h2.2 _ s E
theorem N7{ops:List Oper}{g:Option (Nat×Bool)}{t:List (Nat×SV)}{nx:Nat}(O:ts.ok P)(hp:Hp F own w h)(hn:apX own h nx){a:Act}{o:Oper}
  (X:∀ x,Rel F own w (val ⟨ts,ops,g,⟨t,h⟩,nx⟩ x) (a.eval x))
  (hpk:∀ c x y,o.op=.pick c x y->(a.eval c=.bool true->Rel F own w (kA ops g c true (raw t x)) (a.eval x))/\(a.eval c=.bool false->Rel F own w (kA ops g c false (raw t y)) (a.eval y))):
  Lw P F own w h ((execOp a.eval o).run P w) (opS ⟨ts,ops,g,⟨t,h⟩,nx⟩ o.op):=by
 obtain⟨dst,op,ty,pos,after,guard⟩:=o;simp only at hpk |-;refine ass λE=>?_;generalize he:opS ⟨ts,ops,g,⟨t,h⟩,nx⟩ op=r at E |-;cases op with
 |move x=>subst he;exact⟨_,rfl,X x⟩|assign x=>subst he;exact⟨_,rfl,X x⟩
 |pick c x y=>
  obtain⟨h1,h2⟩:=hpk c x y rfl;have hc:Rel F own w (bF ops g (raw t c)) (a.eval c):=X c;change DH x y (bF ops g (raw t c)) (kA ops g c true (raw t x)) (kA ops g c false (raw t y))=r at he;unfold DH at he;split at he
  rename_i sx sy sz bc bx bz hsc hsx hsy;rw[hsc]at hc;rw[hsx]at h1;rw[hsy]at h2;have hec:=cK hc;have W:(execOp a.eval { dst:=dst,op:=.pick c x y,type:=ty,pos:=pos,after:=after,guard:=guard}).run P w=.ok (.value (if bc then a.eval x else a.eval y)) w:=by
   simp[execOp,hec,asBool]
  cases hx:isTrue x with
  |true=>
   simp only[hx,cond_true]at he;subst he;refine⟨_,W,?_⟩;have hx':=Ly hx;cases bc with
   |true=>simp only[if_true,hx'];exact .v _|false=>grind
  |false=>
   cases hy:isFalse y with
   |true=>
    simp only[hx,hy,cond_true,cond_false]at he;subst he;refine⟨_,W,?_⟩;have hy':=Js hy;cases bc with
    |true=>grind
    |false=>rw[if_neg (by simp),hy'];exact .v _
   |false=>grind
  rename_i sx sy sz bc bz hsc hsx hsy;rw[hsc]at hc;rw[hsy]at h2;have hec:=cK hc;subst he;intro hcf;simp_all [execOp,asBool];rename_i sx sy sz bc bx hsc hsx hsy;rw[hsc]at hc;rw[hsx]at h1;have hec:=cK hc;subst he;intro hcf;simp_all [execOp,asBool];grind
 |alloc U=>
  obtain⟨ti,Y,he⟩:=cb (k:=λti=>I6 nx (some ti.zero)) O he E;subst he;obtain⟨i,d,z,hi,hd,hz,hq,rfl⟩:=bV Y;have hzz:(dL P U i d).zero=svs z:=by simp[dL,hz]
  intro _;obtain⟨q1,q2⟩:=PW (ty:=U) hp hn (l:=svs z) (v:=z) (xq z);rw[hzz];exact⟨trivial,_,_,_,.inl (by simp[execOp,Instr.alloc,zeroValue,typeInfo,hi,hz,newVar,newRow]),q2,q1⟩
 |box U x=>
  change I6 nx (pf (val _ x))=r at he;cases hf:pf (val ⟨ts,ops,g,⟨t,h⟩,nx⟩ x)with
  |none=>rw[hf]at he;exact absurd he.symm E
  |some l=>
   rw[hf]at he;subst he;intro _;obtain⟨q1,q2⟩:=PW (ty:=U) hp hn (v:=a.eval x) (D0 (X x) hf);exact⟨trivial,_,_,_,.inl (by rfl),q2,q1⟩
 |build U V=>
  obtain⟨ti,Y,he⟩:=cb (k:=λti=>bif ti.apK then aI ts ti.elem λte=>NF (lI (λi=>some (i*te.size,te.size)) ti.zero (iK ⟨ts,ops,g,⟨t,h⟩,nx⟩ V.toList))
   else bif ti.agg then NF (lI (λi=>(nth ti.fields i).map λf:Nat×Nat×Bool=>(f.1,f.2.1)) ti.zero (iK ⟨ts,ops,g,⟨t,h⟩,nx⟩ V.toList))else .bad) O he E
  obtain⟨p1,p2⟩:=A4 X V.toList;have W:(execOp a.eval { dst:=dst,op:=.build U V,type:=ty,pos:=pos,after:=after,guard:=guard})=(do pure (Next.value (<-Instr.build U (V.map λ(i,x) =>(i,a.eval x))))):=rfl;have key:∃ l,r=.val (.agg l)/\((ti.apK=true/\∃ te,ca P ti.elem=some te/\lI (λi=>some (i*te.size,te.size)) ti.zero (iK ⟨ts,ops,g,⟨t,h⟩,nx⟩ V.toList)=some l)\/
     (ti.apK=false/\ti.agg=true/\lI (λi=>(nth ti.fields i).map λf=>(f.1,f.2.1)) ti.zero (iK ⟨ts,ops,g,⟨t,h⟩,nx⟩ V.toList)=some l)):=by
   cases ha:ti.apK with
   |true=>
    simp only[ha,cond_true]at he;obtain⟨te,hte,he⟩:=cb O he E;cases hf:lI (λi=>some (i*te.size,te.size)) ti.zero (iK ⟨ts,ops,g,⟨t,h⟩,nx⟩ V.toList)with
    |none=>simp only[hf]at he;exact absurd he.symm E|some l=>simp only[hf]at he;exact⟨l,he.symm,.inl ⟨rfl,te,hte,hf⟩⟩
   |false=>
    cases hg:ti.agg with
    |false=>grind
    |true=>
     simp only[ha,hg,cond_false,cond_true]at he;cases hf:lI (λi=>(nth ti.fields i).map λf=>(f.1,f.2.1)) ti.zero (iK ⟨ts,ops,g,⟨t,h⟩,nx⟩ V.toList)with
     |none=>simp only[hf]at he;exact absurd he.symm E|some l=>simp only[hf]at he;exact⟨l,he.symm,.inr ⟨rfl,rfl,rfl⟩⟩
  obtain⟨l,rfl,hcase⟩:=key;obtain⟨u,e1,e2⟩:=TY (P:=P) Y (vps:=V.map λ(i,x) =>(i,a.eval x)) (by simpa using p1) (by simpa using p2) hcase;exact⟨u,by simp_all,e2⟩
 |buildSlice U n V=>
  obtain⟨ti,Y,he⟩:=cb (k:=λti=>aI ts ti.elem λte=>GI (I7 U ops g) nx te (bsS ti te n (iK ⟨ts,ops,g,⟨t,h⟩,nx⟩ V.toList))) O he E;obtain⟨te,hte,he⟩:=cb (k:=λte=>GI (I7 U ops g) nx te (bsS ti te n (iK ⟨ts,ops,g,⟨t,h⟩,nx⟩ V.toList))) O he E;obtain⟨p1,p2⟩:=A4 X V.toList;have hne:bsS ti te n (iK ⟨ts,ops,g,⟨t,h⟩,nx⟩ V.toList)≠ .bad:=λe=>by rw[e]at he;exact E he.symm
  obtain⟨s,cs,ty2,u,hs0,e1,e2,e3⟩:=abM (P:=P) hp Y hte (n:=n) (vps:=V.map λ(i,x) =>(i,a.eval x)) (by simpa using p1) (by grind) rfl hne;rw[hs0]at he;have plain:r=.apI s->Lw P F own w h ((execOp a.eval ⟨dst,.buildSlice U n V,ty,pos,after,guard⟩).run P w) r:=λe=>by
   subst e;exact⟨u,cs,ty2,by simp[execOp,e1],e2⟩
  cases s with
  |rs k xs=>
   change (bif(te.agg||one xs)&&noG (I7 U ops g)then OR.eff True True [(nx,.row k xs)] (.os nx)else .apI (.rs k xs))=r at he;cases hb:(te.agg||one xs)&&noG (I7 U ops g)with
   |false=>grind
   |true=>
    rw[hb]at he;subst he;obtain⟨m1,m2,m3,m4⟩:=e3 k xs rfl;refine λ_=>⟨trivial,u,own.set nx ⟨none,.slice (some ⟨w.heap.size,0,none⟩) xs.length xs.length,[],[w.heap.size]⟩,w.alloc (.cells cs ty2),.inl (by simp[execOp,e1]),?_,?_⟩;rw[m1];exact Rel.os (F:=F) (id:=nx) (hd:=⟨none,.slice (some ⟨w.heap.size,0,none⟩) xs.length xs.length,[],[w.heap.size]⟩) (Own.apj _ _ _) rfl;exact ui hp hn (w1:=w) ⟨rfl,rfl,rfl,rfl⟩ _ _ _ rfl λbo g=>.inr ⟨w.heap.size,0,xs.length,cs,ty2,rfl,rfl,kC _ _,by omega,alw _,m3,λq x hx j s hj=>by
     obtain⟨u',h1,h2⟩:=m4 q x hx j s hj;exact⟨u',h1,h2.mono g⟩⟩
  |_=>exact plain he.symm
 |load U x=>
  obtain⟨ti,Y,he⟩:=cb (k:=λti=>qy ti h (val ⟨ts,ops,g,⟨t,h⟩,nx⟩ x)) O he E;obtain⟨s',rfl⟩:=Lz he E;obtain⟨u,e1,e2⟩:=Li (P:=P) hp Y (X x) he;exact⟨u,by simp_all [execOp],e2⟩
 |store U x y=>
  obtain⟨ti,Y,he⟩:=cb (k:=λti=>ra ti.size nx h (val ⟨ts,ops,g,⟨t,h⟩,nx⟩ x) (val ⟨ts,ops,g,⟨t,h⟩,nx⟩ y)) O he E;obtain⟨ups,bo,w',rfl,e1,e2⟩:=Sf (P:=P) hp hn Y (X x) (X y) he E;exact λ_=>⟨trivial,undef,bo,w',.inr ⟨by simp[execOp,e1],rfl⟩,.any _,e2⟩
 |nilCheck x=>
  have hx:=X x;change Tx (val _ x)=r at he;generalize hvx:a.eval x=vx at hx;unfold Tx at he;split at he
  rename_i id off hs;subst he;rw[hs]at hx;cases hx with
  |ptr q1 q2=>exact⟨_,by simp[execOp,hvx],.ptr q1 q2⟩
  rename_i l off hs;subst he;rw[hs]at hx;cases hx with
  |ep cf q1 q2=>exact⟨_,by simp[execOp,hvx],.ep cf q1 q2⟩
  rename_i hs;subst he;rw[hs]at hx;cases hx with
  |rp q1 q2 q3=>exact⟨_,by simp[execOp,hvx],.rp q1 q2 q3⟩
  rename_i hs;subst he;rw[hs]at hx;cases hx with
  |gp q1 q2 q3=>exact⟨_,by simp[execOp,hvx],.gp q1 q2 q3⟩
  rename_i f first caps hs
  subst he;rw[hs]at hx;cases hx with
  |fn q1 q2 q3 q4=>exact⟨_,by simp[execOp,hvx],.fn q1 q2 q3 q4⟩
  grind
 |binOp op xt x y yt=>
  change I2 ts op xt (val _ x) (val _ y)=r at he;have hx:=X x;have hy:=X y;generalize val ⟨ts,ops,g,⟨t,h⟩,nx⟩ x=sx at hx he;generalize val ⟨ts,ops,g,⟨t,h⟩,nx⟩ y=sy at hy he;have W:∀ {vx vy:Value},a.eval x=vx->a.eval y=vy->(eqGuard op xt x y vx vy).run P w=.ok () w->∀ u,(Go.binOp op xt vx vy).run P w=.ok u w->(execOp a.eval { dst:=dst,op:=.binOp op xt x y yt,type:=ty,pos:=pos,after:=after,guard:=guard}).run P w=.ok (.value u) w:=by
   simp_all [execOp]
  unfold I2 at he;split at he
  rename_i k m k' n;obtain⟨hsk,h3⟩:=NO he E;have ex:=cK hx;have ey:=cK hy;cases r with
  |val s=>
   obtain⟨u,e1,rfl⟩:=RP (P:=P) (w:=w) (ty:=xt) hsk h3.symm;exact⟨u,W ex ey (Ce ..) u e1,.v u⟩
  |chk c s=>
   intro hc;obtain⟨u,e1,rfl⟩:=RQ (P:=P) (w:=w) (ty:=xt) hsk h3.symm hc;exact⟨u,W ex ey (Ce ..) u e1,.v u⟩
  |bad=>grind|_=>exfalso;cases op <;>simp[ue]at h3
  obtain⟨ti,Y,he⟩:=cb (k:=λti=>eqS op ti sx sy) O he E;obtain⟨i,d,z,hi,hd,hz,hq,rfl⟩:=bV Y;unfold eqS at he;split at he
  rename_i l _ _;have ey:=cK hy;cases hb:(dL P xt i d).isSlice with
  |false=>grind
  |true=>
   rw[hb]at he;simp only[cond_true]at he;have hds:∃ e,d=.slice e:=by cases d <;>simp[dL]at hb;grind
   obtain⟨e,rfl⟩:=hds;have hg:∀ (ad:Option Addr) (n c:Nat),(eqGuard op xt x y (.slice ad n c) (.slice none 0 0)).run P w=.ok () w:=λad n c=>by simp_all [eqGuard]
   have hq:∀ (ad:Option Addr) (n c:Nat),(Op.equal xt (.slice ad n c) (.slice none 0 0)).run P w=.ok ad.isNone w:=λad n c=>by
    grind [CI,Op.equal,Op.maxDepth]
   have hsl:∃ ad n c,a.eval x=.slice ad n c/\(ad.isNone=true->l=[]):=by
    generalize a.eval x=vx at hx;cases hx <;>grind
   obtain⟨ad,n,c,hvx,hl⟩:=hsl;cases op <;>simp only[XJ]at he <;>first|exact absurd he.symm E|subst he
   exact⟨ad.isNone,hl,W hvx ey (hg _ _ _) _ (by simp[Go.binOp,hq])⟩;exact⟨!ad.isNone,λh=>hl (by simpa using h),W hvx ey (hg _ _ _) _ (by simp[Go.binOp,hq])⟩
  rename_i b1 b2 _ _;have ex:=cK hx;have ey:=cK hy;have hg:(eqGuard op xt x y (.string b1) (.string b2)).run P w=.ok () w:=by simp_all [eqGuard]
  cases hb:Nat.beq (dL P xt i d).sc 2 with
  |false=>grind
  |true=>
   rw[hb]at he;simp only[cond_true]at he;cases op <;>simp only[Pv]at he <;>first|exact absurd he.symm E|subst he
   exact⟨_,W ex ey hg _ (by simp[Go.binOp,Op.stringOp,beq_toListBytes,bne]),.v _⟩;exact⟨_,W ex ey hg _ (by simp[Go.binOp,Op.stringOp,beq_toListBytes,bne]),.v _⟩
  rename_i b1 b2 _ _;have ex:=cK hx;have ey:=cK hy;have hg:(eqGuard op xt x y (.bool b1) (.bool b2)).run P w=.ok () w:=by simp_all [eqGuard]
  cases hb:Nat.beq (dL P xt i d).sc 3 with
  |false=>grind
  |true=>
   rw[hb]at he;simp only[cond_true]at he;have hc:=alu hb;have hdb:d=.bool:=by cases d <;>simp[dL,cw]at hc <;>rfl
   subst hdb;have heq:(Op.equal xt (.bool b1) (.bool b2)).run P w=.ok (b1==b2) w:=by unfold Op.equal Op.maxDepth;exact run_equalIn_bool' w 9999 xt b1 b2 hd
   cases op <;>simp only[I1]at he <;>first|exact absurd he.symm E|subst he
   exact⟨_,W ex ey hg _ (by simp[Go.binOp,heq]),.v _⟩;exact⟨_,W ex ey hg _ (by simp[Go.binOp,heq,bne]),.v _⟩
  rename_i l m _ _;obtain⟨xs,ex,hxs⟩:=tE hx;obtain⟨ys,ey,hys⟩:=tE hy;unfold eqT abr at he;split at he
  grind
  rename_i c cs hcs;have hcs':Tv P xt d=c::cs:=hcs;cases hl:eqL (c::cs) l m with
  |none=>rw[hl]at he;exact absurd he.symm E
  |some b=>
   rw[hl]at he;have hany:(Op.equal xt (.agg xs) (.agg ys)).run P w=.ok b w/\P.eqGuardType P.depth xt=false:=by
    grind [Sa,Lt,Tv]
   obtain⟨q1,q2⟩:=hany;have hg:(eqGuard op xt x y (.agg xs) (.agg ys)).run P w=.ok () w:=run_eqGuard_agg w op xt x y xs ys q2;cases op <;>simp only[eqO]at he <;>first|exact absurd he.symm E|subst he
   exact⟨_,W ex ey hg _ (by simp[Go.binOp,q1]),.v _⟩;exact⟨_,W ex ey hg _ (by simp[Go.binOp,q1]),.v _⟩
  grind
 |unOp op xt x=>
  change unS op (val _ x)=r at he;have hx:=X x;unfold unS at he;split at he
  rename_i b hs;subst he;rw[hs]at hx;have ex:=cK hx;exact⟨_,by simp only[execOp,ex];rfl,.v _⟩;rename_i k n hs;subst he;rw[hs]at hx;have ex:=cK hx;exact⟨_,by simp only[execOp,ex];rfl,.v _⟩;grind
 |convert src dt x=>
  obtain⟨t1,ht1,he⟩:=cb (k:=λ_=>aI ts dt λti=>K_ ti.int (val ⟨ts,ops,g,⟨t,h⟩,nx⟩ x)) O he E;obtain⟨t2,ht2,he⟩:=cb O he E;obtain⟨i1,d1,z1,hi1,hd1,hz1,hq1,rfl⟩:=bV ht1;obtain⟨i2,d2,z2,hi2,hd2,hz2,hq2,rfl⟩:=bV ht2;have hx:=X x;unfold K_ at he;split at he
  rename_i kd k' n hk hs;subst he;rw[hs]at hx;have ex:=cK hx;cases d2 <;>simp[dL]at hk;subst hk;refine⟨_,?_,.v _⟩;simp_all [execOp,Go.convert,run_underlying,Conv.intToInt];grind
 |panic x=>
  change TF (val _ x)=r at he;have hx:=X x;unfold TF at he;split at he
  rename_i t' y hs;subst he;rw[hs]at hx;have ex:=cK hx;simp only[Lw,execOp,ex];rfl;grind
 |makeInterface U x=>
  obtain⟨ti,Y,he⟩:=cb (k:=λti=>bif ti.iface then .bad else DK U (val ⟨ts,ops,g,⟨t,h⟩,nx⟩ x)) O he E;obtain⟨i,d,z,hi,hd,hz,hq,rfl⟩:=bV Y;have hx:=X x;cases hif:(dL P U i d).iface with
  |true=>grind
  |false=>
   simp only[hif,cond_false]at he;unfold DK at he;split at he
   rename_i k n hs;subst he;rw[hs]at hx;have ex:=cK hx;refine⟨_,?_,.v _⟩;simp only[execOp,ex];apply agf;cases d <;>simp[dL]at hif <;>simp[Instr.makeInterface,run_underlying hd];grind
 |makeFunc fn first caps=>
  change Lc fn (dx _ first.toList) (dx _ caps.toList)=r at he;unfold Lc at he;split at he
  rename_i f;subst he;obtain⟨q1,q2⟩:=uo X caps;obtain⟨q3,q4⟩:=uo X first
  exact⟨.func (.func f) (first.map a.eval) (caps.map a.eval),by rfl,.fn q3 q1 q4 q2⟩;grind
 |fieldAddr U x f=>
  obtain⟨ti,Y,he⟩:=cb (k:=λti=>match nth ti.fields f with|some (o,n,_) =>bif Nat.ble 1 n then AS o (val ⟨ts,ops,g,⟨t,h⟩,nx⟩ x)else .bad|none=>.bad) O he E;cases hf:nth ti.fields f with
  |none=>grind
  |some q=>
   obtain⟨o,n,q⟩:=q;simp only[hf]at he;cases hn:Nat.ble 1 n with
   |false=>grind
   |true=>
    simp only[hn,cond_true]at he;obtain⟨s',rfl⟩:=N6 he E;obtain⟨u,e1,e2⟩:=Ji (P:=P) Y hf (nbl hn) (X x) he;exact⟨u,by simp_all [execOp],e2⟩
 |field U x f=>
  obtain⟨ti,Y,he⟩:=cb (k:=λti=>sn (nth ti.fields f) (zr (val ⟨ts,ops,g,⟨t,h⟩,nx⟩ x))) O he E;have hsh:∃ s',r=.val s':=by
   unfold sn at he;split at he
   obtain⟨s',_,e⟩:=nW he E;grind;grind
  obtain⟨s',rfl⟩:=hsh;obtain⟨u,e1,e2⟩:=RN (P:=P) Y (X x) he;exact⟨u,by simp_all [execOp],e2⟩
 |indexAddr U x i=>
  obtain⟨ti,Y,he⟩:=cb (k:=λti=>aI ts ti.elem λte=>iv ti te.size h (val ⟨ts,ops,g,⟨t,h⟩,nx⟩ x) (val ⟨ts,ops,g,⟨t,h⟩,nx⟩ i)) O he E;obtain⟨te,hte,he⟩:=cb O he E;obtain⟨c,s',rfl,hc⟩:=RO (P:=P) hp Y hte (X x) (X i) he E;intro hcc;obtain⟨u,e1,e2⟩:=hc hcc;simp_all [execOp]
 |extract x i=>
  have hx:=X x;change TE i (val _ x)=r at he;generalize hvx:a.eval x=vx at hx;unfold TE at he;split at he
  rename_i l hs;rw[hs]at hx;obtain⟨s',e1,rfl⟩:=nW he E;rw[gH]at e1;cases hx with
  |tup q1 q2=>
   rename_i vs;have hlt:i<vs.size:=by grind
   have:=q2 i s' e1;simp only[alW,amL hlt,anK]at this;exact⟨vs[i],by simp[execOp,hvx,Instr.extract,hlt],this⟩
  grind
 |makeSlice U n c=>
  obtain⟨ti,Y,he⟩:=cb (k:=λti=>aI ts ti.elem λte=>bif ti.isSlice then(bif te.isSlice then aI ts te.elem λtr=>GJ nx te tr (val ⟨ts,ops,g,⟨t,h⟩,nx⟩ n) (val ⟨ts,ops,g,⟨t,h⟩,nx⟩ c)else mkS nx te (val ⟨ts,ops,g,⟨t,h⟩,nx⟩ n) (val ⟨ts,ops,g,⟨t,h⟩,nx⟩ c))else .bad) O he E;obtain⟨te,hte,he⟩:=cb O he E;cases hs:ti.isSlice with
  |false=>grind
  |true=>
   rw[hs]at he;simp only[cond_true]at he;cases hs2:te.isSlice with
   |true=>
    rw[hs2]at he;obtain⟨tr,htr,he⟩:=cb (k:=λtr=>GJ nx te tr (val ⟨ts,ops,g,⟨t,h⟩,nx⟩ n) (val ⟨ts,ops,g,⟨t,h⟩,nx⟩ c)) O he E;exact uq (X9 (P:=P) hp hn Y hte hs (X n) (X c) he E)
   |false=>
    rw[hs2]at he;exact uq (abP (P:=P) hp hn Y hte hs (X n) (X c) he E)
 |slice U x lo hi mx=>
  cases mx with
  |some m=>
   obtain⟨ti,Y,he⟩:=cb (k:=λti=>aI ts ti.elem λ_=>DN ti (ol ⟨ts,ops,g,⟨t,h⟩,nx⟩ lo) (ol ⟨ts,ops,g,⟨t,h⟩,nx⟩ hi) (val ⟨ts,ops,g,⟨t,h⟩,nx⟩ m) (val ⟨ts,ops,g,⟨t,h⟩,nx⟩ x)) O he E;obtain⟨te,hte,he⟩:=cb O he E;obtain⟨_,l2⟩:=zM X lo;obtain⟨l3,_⟩:=zM X hi;obtain⟨c,s',hc,h1⟩:=T9 (P:=P) Y hte (X x) (X m) l2 l3 he E;rcases hc with⟨rfl,hc⟩ |rfl;obtain⟨u,e1,e2⟩:=h1 hc;exact⟨u,by simp_all [execOp],e2⟩;intro hcc;obtain⟨u,e1,e2⟩:=h1 hcc;simp_all [execOp]
  |none=>
  obtain⟨ti,Y,he⟩:=cb (k:=λti=>aI ts ti.elem λte=>mL ti te.size nx h (ol ⟨ts,ops,g,⟨t,h⟩,nx⟩ lo) (ol ⟨ts,ops,g,⟨t,h⟩,nx⟩ hi) (HR hi&&Lb ops) (val ⟨ts,ops,g,⟨t,h⟩,nx⟩ x)) O he E;obtain⟨te,hte,he⟩:=cb O he E;obtain⟨l1,l2⟩:=zM X lo;obtain⟨l3,l4⟩:=zM X hi;rcases Sc (P:=P) hp hn Y hte (X x) l1 l2 l3 l4 (λq=>by cases hi with|none=>rfl|some _=>simp[HR]at q) he E with⟨c,s',rfl,hc⟩ |he;intro hcc;obtain⟨u,e1,e2⟩:=hc hcc;simp_all [execOp];exact uq he
 |makeMap U rs=>
  cases rs with
  |some _=>exact absurd he.symm E
  |none=>
  obtain⟨ti,Y,he⟩:=cb (k:=λti=>mmR nx ti.mkt ti.mvt) O he E;unfold mmR at he;split at he
  rename_i kk vk hk hv';subst he;intro _;refine⟨trivial,.map (some w.heap.size),own.set nx ⟨none,.map (some w.heap.size),[],[w.heap.size]⟩,w.alloc (.map #[] 0),.inl (by rfl),?_,?_⟩;have:=Rel.os (F:=F) (own:=own.set nx ⟨none,.map (some w.heap.size),[],[w.heap.size]⟩) (w:=w.alloc (.map #[] 0)) (Own.apj _ _ _) rfl;exact this;exact ui hp hn (w1:=w) ⟨rfl,rfl,rfl,rfl⟩ _ _ _ rfl λbo g=>⟨w.heap.size,#[],0,rfl,rfl,kC _ _,⟨rfl,λi x hx=>by simp[eD]at hx⟩,⟨by simp[kD],λn hn=>by simp[kD]at hn⟩,trivial⟩;grind
 |lookup U m k ok=>
  obtain⟨ti,Y,he⟩:=cb (k:=λti=>tx ti h ok (val ⟨ts,ops,g,⟨t,h⟩,nx⟩ k) (val ⟨ts,ops,g,⟨t,h⟩,nx⟩ m)) O he E;obtain⟨s',rfl,u,e1,e2⟩:=Ua (P:=P) hp Y (X m) (X k) he E;exact⟨u,by simp_all [execOp],e2⟩
 |mapUpdate U m k v=>
  obtain⟨ti,Y,he⟩:=cb (k:=λti=>CG ti h (val ⟨ts,ops,g,⟨t,h⟩,nx⟩ k) (val ⟨ts,ops,g,⟨t,h⟩,nx⟩ v) (val ⟨ts,ops,g,⟨t,h⟩,nx⟩ m)) O he E;obtain⟨ups,rfl,w',e1,e2⟩:=PU (P:=P) hp Y (X m) (X k) (X v) he E;exact λ_=>⟨trivial,undef,own,w',.inr ⟨by simp[execOp,e1],rfl⟩,.any _,e2⟩
 |insert U m k v=>
  obtain⟨ti,Y,he⟩:=cb (k:=λti=>CG ti h (val ⟨ts,ops,g,⟨t,h⟩,nx⟩ k) (val ⟨ts,ops,g,⟨t,h⟩,nx⟩ v) (val ⟨ts,ops,g,⟨t,h⟩,nx⟩ m)) O he E;obtain⟨ups,rfl,w',e1,e2⟩:=PU (P:=P) hp Y (X m) (X k) (X v) he E;exact λ_=>⟨trivial,undef,own,w',.inr ⟨by simp[execOp,e1],rfl⟩,.any _,e2⟩
 |mapEntry U m k=>
  obtain⟨ti,Y,he⟩:=cb (k:=λti=>xS ti nx h (val ⟨ts,ops,g,⟨t,h⟩,nx⟩ k) (val ⟨ts,ops,g,⟨t,h⟩,nx⟩ m)) O he E;exact uq (X7 (P:=P) hp hn Y (X m) (X k) he E)
 |entryStore U m s v=>
  obtain⟨ti,Y,he⟩:=cb (k:=λti=>I_ ti h (val ⟨ts,ops,g,⟨t,h⟩,nx⟩ v) (val ⟨ts,ops,g,⟨t,h⟩,nx⟩ m) (val ⟨ts,ops,g,⟨t,h⟩,nx⟩ s)) O he E;obtain⟨c,ups,rfl,hc⟩:=X8 (P:=P) hp Y (X m) (X s) (X v) he E;intro hcc;obtain⟨w',e1,e2⟩:=hc hcc;exact⟨trivial,undef,own,w',.inr ⟨by simp[execOp,e1],rfl⟩,.any _,e2⟩
 |typeAssert x xt U ok=>
  obtain⟨ti,Y,he⟩:=cb (k:=λti=>taS U ok ti (val ⟨ts,ops,g,⟨t,h⟩,nx⟩ x)) O he E;obtain⟨i,d,z,hi,hd,hz,hq,rfl⟩:=bV Y;have hx:=X x;unfold taS at he;split at he
  rename_i t' y hs;rw[hs]at hx;have ex:=cK hx;cases hif:(dL P U i d).iface with
  |true=>grind
  |false=>
   rw[hif]at he;simp only[cond_false]at he;cases hb:Nat.beq t' U with
   |false=>grind
   |true=>
    rw[hb]at he;simp only[cond_true]at he;have htt:=alu hb;have hrr:r=(bif ok then .val (.tup [.v y,.b true])else .val (.v y)):=he.symm;subst htt;have W:(Instr.typeAssert (.iface t' y) xt t' ok).run P w=.ok (if ok then .tuple #[y,.bool true]else y) w:=by
     cases d <;>simp[dL]at hif <;>cases ok <;>simp[Instr.typeAssert,run_underlying hd]
    rw[hrr];clear hrr;cases ok with
    |false=>exact⟨y,by simp_all [execOp],.v _⟩
    |true=>
     refine⟨.tuple #[y,.bool true],by simp_all [execOp],.tup rfl λj s hj=>?_⟩;cases j with
     |zero=>simp at hj;subst hj;exact .v _
     |succ j=>
      cases j with
      |zero=>simp at hj;subst hj;exact .v _|succ j=>simp at hj
  grind
 |call c=>
  obtain⟨callee,args,tys⟩:=c;cases callee with
  |value f=>
   have hf:=X f;change zu (dx _ args.toList) (val _ f)=r at he;generalize hvf:a.eval f=vf at hf;unfold zu at he;split at he
   rename_i fid first caps hs
   subst he;rw[hs]at hf;cases hf with
   |fn q1 q2 q3 q4=>
    rename_i us vs;obtain⟨p1,p2⟩:=uo X args;refine⟨us++args.map a.eval++vs,api.app (api.app ⟨q1,q3⟩ ⟨p1,p2⟩) ⟨q2,q4⟩,?_⟩;simp[execOp,resolve,hvf,Deferred.ofValue,invoke]
   rename_i id hs;subst he;rw[hs]at hf;obtain⟨hd,h1,rfl,h2⟩:=iD hf;exact⟨hd,h1,args.map a.eval,uo X args,by simp[execOp,resolve,hvf,Sg]⟩;grind
  |invoke f m=>exact absurd he.symm E
  |builtin b=>
   obtain⟨p1,p2⟩:=uo X args;have W:∀ (b:Builtin),(execOp a.eval { dst:=dst,op:=.call ⟨.builtin b,args,tys⟩,type:=ty,pos:=pos,after:=after,guard:=guard})=builtin b tys ty (args.map λ| .const _=>true|_=>false) (args.map a.eval):=λb=>rfl;cases b <;>first|(exact absurd he.symm E) |skip
   ·
    change (match tys.toList with| [t',t2] =>aI ts t' λti=>aI ts t2 λti2=>aI ts ti.elem λte=>bif ti.isSlice&&ti2.isSlice then mt te nx h (dx _ args.toList)else .bad|_=>.bad)=r at he;split at he
    rename_i t' t2 htys;obtain⟨ti,Y,he⟩:=cb O he E;obtain⟨ti2,ht2,he⟩:=cb O he E;obtain⟨te,hte,he⟩:=cb O he E;cases hs:ti.isSlice&&ti2.isSlice with
    |false=>grind
    |true=>
     rw[hs]at he;rw[alt]at hs;have htys':tys= #[t',t2]:=by grind
     have:=X4 (P:=P) (ty:=ty) hp hn Y ht2 hte hs.1 hs.2 ⟨p1,p2⟩ he E;grind [uq,builtin]
    grind
   ·
    change (match tys.toList with| [t'] =>aI ts t' λti=>aI ts ti.elem λte=>yK ti te h (dx _ args.toList) |_=>.bad)=r at he;split at he
    rename_i t' htys;obtain⟨ti,Y,he⟩:=cb O he E;obtain⟨te,hte,he⟩:=cb O he E;have htys':tys= #[t']:=by grind
    have:=X_ (P:=P) hp Y hte ⟨p1,p2⟩ he E ty;grind [uq,builtin]
    grind
   ·
    change (match tys.toList with|t'::_=>aI ts t' λti=>yL ti h (dx _ args.toList) |_=>.bad)=r at he;split at he
    rename_i t' rest htys;obtain⟨ti,Y,he⟩:=cb O he E;have hty0:tys[0]? =some t':=by rw[<-anf,htys];rfl
    obtain⟨ups,rfl,u,w',e1,e2⟩:=X6 (P:=P) hp Y ⟨p1,p2⟩ he E hty0 ty;intro _;refine⟨trivial,u,own,w',.inl ?_,.any _,e2⟩;simp_all [builtin];grind
   ·
    change (match tys.toList with| [t'] =>aI ts t' λti=>tU ti h (dx _ args.toList) |_=>.bad)=r at he;split at he
    rename_i t' htys;obtain⟨ti,Y,he⟩:=cb O he E;have htys':tys= #[t']:=by grind
    obtain⟨n,hn',hl⟩:=X5 (P:=P) (ty:=ty) hp Y ⟨p1,p2⟩ he E;have hfin:(execOp a.eval { dst:=dst,op:=.call ⟨.builtin .len,args,tys⟩,type:=ty,pos:=pos,after:=after,guard:=guard}).run P w=.ok (.value (.int .i64 n)) w:=by
     simp_all [builtin]
    rcases hn' with⟨c,rfl,hc⟩ |rfl;exact⟨hc,_,hfin,.v _⟩;exact⟨_,hfin,.v _⟩;grind
   change I9 (dx _ args.toList)=r at he;unfold I9 at he;split at he
   rename_i k x k' y hvl;subst he;rw[hvl]at p1 p2;have h0:=p2 0 _ rfl;have h1:=p2 1 _ rfl;generalize hgv:args.map a.eval=vs at *;obtain⟨l⟩:=vs;match l,p1 with
   | [u,v],_=>
    simp at h0 h1;have e0:=cK h0;have e1:=cK h1;subst e0;subst e1;exact⟨_,by simp_all [builtin,Builtin.max_,Builtin.max2],.v _⟩
   grind
   change I8 (dx _ args.toList)=r at he;unfold I8 at he;split at he
   rename_i k x k' y hvl;subst he;rw[hvl]at p1 p2;have h0:=p2 0 _ rfl;have h1:=p2 1 _ rfl;generalize hgv:args.map a.eval=vs at *;obtain⟨l⟩:=vs;match l,p1 with
   | [u,v],_=>
    simp at h0 h1;have e0:=cK h0;have e1:=cK h1;subst e0;subst e1;exact⟨_,by simp_all [builtin,Builtin.min_,Builtin.min2],.v _⟩
   grind
 |range U x=>
  obtain⟨ti,Y,he⟩:=cb (k:=λti=>DO ti nx h (val ⟨ts,ops,g,⟨t,h⟩,nx⟩ x)) O he E;have hvx:=X x;generalize val ⟨ts,ops,g,⟨t,h⟩,nx⟩ x=sx at he hvx;unfold DO at he;split at he
  rename_i id;obtain⟨hdd,h1,hv1,h2⟩:=iD hvx;cases ho:aq h id with
  |mp kk vk l apJ=>
   rw[ho]at he;simp only[XU]at he;cases hc:lz kk ti.mkt&&lz vk ti.mvt&&noE apJ with
   |false=>grind
   |true=>
     rw[hc]at he;simp only[cond_true]at he;simp only[alt]at hc;subst he;obtain⟨kt,e,q1,_⟩:=yS Y (nE hc.1.1) (nE hc.1.2);obtain⟨hd',e0,bm,es,clk,m1,m2,m3,m4,m5,_⟩:=hp.at ho rfl;rw[h1]at e0;cases e0;rw[kg hc.2]at m4;have hes:es.size=l.length:=m4.1;have hidn:id≠nx:=λe=>by rw[e,hn.none]at h1;cases h1
     intro _;refine⟨trivial,.pointer (some ⟨w.heap.size,0,none⟩),own.set nx ⟨some w.heap.size,undef,stV (kD es) clk,[w.heap.size]⟩,w.alloc (.mapIter (some bm) clk #[] clk),.inl ?_,.ptr (Own.apj _ _ _) rfl,?_⟩;have:=run_range_map (P:=P) w U kt e bm es clk q1 m3;simp_all [execOp];have s1:=ui hp hn (w1:=w) ⟨rfl,rfl,rfl,rfl⟩ (.mapIter (some bm) clk #[] clk) (.mi (some id) l.length (List.range l.length) none) ⟨some w.heap.size,undef,stV (kD es) clk,[w.heap.size]⟩ rfl λbo g=>⟨w.heap.size,rfl,rfl,λi hi=>by
      cases hi;obtain⟨hd2,k1,k2⟩:=g.ids _ _ h1;have hbl:(kD es).length=l.length:=by simp[kD,hes]
      refine⟨hd2,bm,#[],clk,kD es,k1,k2.2.1.trans m1,kC _ _,rfl,hbl,List.nodup_range,λk=>?_,λj hj=>by cases hj⟩;grind⟩
     have go:(own.set nx ⟨some w.heap.size,undef,stV (kD es) clk,[w.heap.size]⟩) id=some hdd:=by grind [Own.apr]
     have s2:=HT s1.hp go (.mp kk vk l (some (nx,none))) ⟨bm,es,clk,m1,m2,by grind [qA],m4.carry s1.fr.apD.apz,m5,_,Own.apj _ _ _,rfl⟩;refine⟨s2.hp,s1.fr.trans s2.fr,λj hj hd=>?_⟩;have hd2:dI (aq (cF (cF h nx (.mi (some id) l.length (List.range l.length) none)) id (.mp kk vk l (some (nx,none)))) j)=true:=hd;rw[dF,dF]at hd2;by_cases e:j=nx
     subst e;rw[if_neg hidn,if_pos rfl]at hd2;cases hd2;grind [Own.apr]
  |_=>rw[ho]at he;exact absurd he.symm E
  grind
 |next it isS=>
  cases isS with
  |true=>exact absurd he.symm E
  |false=>
   have hvx:=X it;change TN (val ⟨ts,ops,g,⟨t,h⟩,nx⟩ it)=r at he;generalize val ⟨ts,ops,g,⟨t,h⟩,nx⟩ it=sx at he hvx;unfold TN at he;split at he
   rename_i id;subst he;have key:∀ v,Rel F own w (.ptr id 0) v->∃ hd b,own id=some hd/\hd.p=some b/\v=.pointer (some ⟨b,0,none⟩):=λv h=>by
    cases h <;>grind
   obtain⟨hd,b,e1,e2,hev⟩:=key _ hvx;refine⟨hd,b,e1,e2,ty,λu w' W=>?_⟩;simp_all [execOp];grind
 |entry it=>
  have hvx:=X it;change Cb h (val ⟨ts,ops,g,⟨t,h⟩,nx⟩ it)=r at he;generalize val ⟨ts,ops,g,⟨t,h⟩,nx⟩ it=sx at he hvx;unfold Cb at he;split at he
  ·rename_i id;cases ho:aq h id with
   |mi mid n left cur=>
    rw[ho]at he;unfold PB at he;split at he
    ·rename_i mid' n' left' j hob;cases hob;cases hm:aq h mid' with
     |mp kk vk l apJ=>
      rw[hm]at he;cases apJ with
      |none=>exact absurd he.symm E
      |some q=>
      obtain⟨it,q⟩:=q;cases q with
      |some _=>exact absurd he.symm E
      |none=>
      simp only[TO]at he;cases hbi:Nat.beq it id with
      |false=>grind
      |true=>
       rw[hbi]at he;simp only[cond_true]at he;have hit:=alu hbi;subst he;rintro⟨hn0,hj⟩;have key:∀ v,Rel F own w (.ptr id 0) v->∃ hd b,own id=some hd/\hd.p=some b/\v=.pointer (some ⟨b,0,none⟩):=λv h=>by
        cases h <;>grind
       obtain⟨hd,b,e1,e2,hev⟩:=key _ hvx;obtain⟨hd',e1',b',p1,p2,p3⟩:=hp.at ho rfl;rw[e1]at e1';cases e1';rw[e2]at p1;cases p1;obtain⟨hdm,bm,seen,c0,ss,k1,k2,k3,k4,k5,k6,k7,k8⟩:=p3 _ rfl;obtain⟨s8,hs8,hs⟩:=k8 j rfl;obtain⟨hdm',k1',bm',es,clk,m1,m2,m3,m4,m5,hd2,t1,t2⟩:=hp.at hm rfl;rw[k1]at k1';cases k1';rw[k2]at m1;cases m1;rw[hit,e1]at t1;cases t1;obtain⟨hc0,hss⟩:=PK (k4.symm.trans t2);subst hc0;subst hss;have hlt:j<l.length:=by omega
       obtain⟨en,f1,f2,f3,f4⟩:=m4.2 j l[j] (by simp[eD,hlt]);have hen:s8=en.born:=by
        grind [kD]
       subst hen;have hseen:seen=seen.pop.push en.born:=by
        obtain⟨xs,rfl⟩:=Array.back?_eq_some_iff.1 hs;simp
       have W:=GO (P:=P) (w:=w) (b:=b) (bm:=bm) (since:=c0) (clock:=c0) (seen:=seen.pop) (es:=es) (e:=en) (by grind) m3 (by grind) m5.1;refine⟨.tuple #[en.key,en.val],by simp[execOp,hev,W],.tup rfl λk s hk=>?_⟩;have hgd:l.getD j (eC kk,eC vk)=l[j]:=by grind
       rw[hgd]at hk;match k,hk with
       |0,hk=>cases hk;exact f3|1,hk=>cases hk;exact f4
     |_=>rw[hm]at he;exact absurd he.symm E
    grind
   |_=>rw[ho]at he;exact absurd he.symm E
  grind
 |_=>exact absurd he.symm E
end
def Dfr (F:Nat->Prop)(B:Bs)(w:World)(ds:List Deferred):Prop:=
 ∃ (ms:List Deferred) (Ds:List Nat),ds=ms++B.ds/\ms.map (·.target)=Ds.map .collected/\Ds.Nodup/\∀ D∈Ds,B.w.heap.size<=D/\F D/\w.heap[D]? =some (.deferred (some []))
variable {F:Nat->Prop}{B:Bs}{w:World}
theorem Dfr.fr{own bo:Own}{w':World}{ds:List Deferred}(h:Dfr F B w ds)(g:Fr { w:=w,own:=own} bo w')(E:∀ (id:Nat) (hd:Hd) (b:Nat),own id=some hd->b∈hd.bs->¬F b):Dfr F B w' ds:=by
 obtain⟨Y,Ds,V,h1,h2,W⟩:=h;refine⟨Y,Ds,V,h1,h2,λD hD=>?_⟩;obtain⟨q1,U,O⟩:=W D hD;exact⟨q1,U,by rw[g.block D ⟨rG O,λ⟨id,hd,e,X⟩ =>E id hd D e X U⟩];exact O⟩
theorem Dfr.nil:Dfr F B w B.ds:=⟨[],[],rfl,rfl,amW,λD h=>by cases h⟩
def mV (ops:List Oper)(j:Nat):Prop:= ∃ (i:Nat) (o:Oper) (b:Bool),ops[i]? =some o/\o.guard=some (j,b)
def aqD (F:Nat->Prop)(ops:List Oper)(E:Nat->Prop)(own:Own)(a:Act)(w:World):SV->Value->Prop
 | .gd j b s,v=>E j/\mV ops j/\(yielded ops.toArray a.tmps j=some b->Rel F own w s v)|s,v=>Rel F own w s v
def GOk (ops:List Oper)(a:Act):Option (Nat×Bool)->Prop
 |none=>True|some g=>yielded ops.toArray a.tmps g.1=some g.2
section
variable {P:Program}{F:Nat->Prop}{own:Own}{w:World}{ts:Tis}
variable {ops:List Oper}{E:Nat->Prop}{a:Act}{v:Value}
theorem wE{s:SV}(h:Rel F own w s v):aqD F ops E own a w s v:=by
 cases s <;>first|exact h|cases h
variable {bo:Own}{w':World}
theorem aqD.mono{O:Nat->Prop}{U:Act}{s:SV}(h:aqD F ops E own a w s v)(V:∀ j,E j->O j)(g:apx F own w bo w')
  (hy:∀ j b,E j->mV ops j->yielded ops.toArray U.tmps j=some b->yielded ops.toArray a.tmps j=some b):aqD F ops O bo U w' s v:=by
 cases s with
 |gd j b s=>exact⟨V j h.1,h.2.1,λq=>(h.2.2 (hy j b h.1 h.2.1 q)).mono g⟩
 |_=>exact Rel.mono g h
theorem lK (ops:List Oper)(tmps:Array Value)(j:Nat)(b:Bool):yielded ops.toArray tmps j=some b↔∃ o d,ops[j]? =some o/\o.dst=some d/\tmps[d]? =some (.bool b):=by
 grind [yielded,Option.bind_eq_some_iff]
structure ROk (N:Nat)(ops:List Oper):Prop where
 dst:∀ (i:Nat) (o:Oper) (d:Nat),ops[i]? =some o->o.dst=some d->d<N
 lt:∀ (i:Nat) (o:Oper) (j:Nat) (b:Bool),ops[i]? =some o->o.guard=some (j,b)->j<i
 uniq:∀ (j:Nat),mV ops j->∃ (o:Oper) (d:Nat),ops[j]? =some o/\o.dst=some d/\∀ (k:Nat) (q:Oper),k≠j->ops[k]? =some q->q.dst≠some d
variable {N:Nat}
theorem Uc(h:TX N ops=true):ROk N ops:=by
 have h':∀ (i:Nat) (o:Oper),ops[i]? =some o->((match o.dst with|some d=>Nat.blt d N|none=>true)&&Dh ops i o)=true:=by
  intro i o E;unfold TX at h;rw[al0]at h;have:=h i (amX.2 (alz.1 E).1);grind [gH]
 refine⟨λi o d E hd=>?_,λi o j b E U=>?_,λj ⟨i,o,b,E,U⟩ =>?_⟩;have:=h' i o E;simp_all;have:=h' i o E;simp_all [Dh];have:=h' i o E;simp only[Dh,U,alt]at this;obtain⟨_,_,O⟩:=this;rw[gH]at O;cases X:ops[j]? with
 |none=>grind
 |some q=>
  cases hd:q.dst with
  |none=>grind
  |some d=>
   rw[X]at O;simp only[am6,hd,al0,amX,alY]at O;refine⟨q,d,rfl,hd,λk p Y V W=>?_⟩;have:=O k (alz.1 V).1;simp_all [gH]
theorem Ed {E:Nat->Prop}{ops:List Oper}{a:Act}(V:∀ (k:Nat) (o:Oper) (j:Nat) (b:Bool),E k->ops[k]? =some o->o.guard=some (j,b)->E j)(W:∀ (k:Nat) (o:Oper) (b:Bool),E k->mV ops k->ops[k]? =some o->yielded ops.toArray a.tmps k=some b->GOk ops a o.guard):
  ∀ (n:Nat) (g:Option (Nat×Bool)) (j:Nat) (b:Bool),(∀ k c,g=some (k,c)->E k/\mV ops k)->
  rE ops n g j b=true->GOk ops a g->yielded ops.toArray a.tmps j=some b
 |0,_,_,_,_,h,_=>by simp[rE]at h
 |n+1,none,_,_,_,h,_=>by simp[rE]at h
 |n+1,some (j',b'),j,b,hm,h,hk=>by
  simp only[rE]at h;cases hc:Nat.beq j' j&&CE b' b with
  |true=>
   simp only[alt]at hc;have e1:=alu hc.1;have e2:b'=b:=by cases b' <;>cases b <;>simp[CE]at hc |-
   subst e1;subst e2;exact hk
  |false=>
   simp only[hc,cond_false]at h;have O:yielded ops.toArray a.tmps j'=some b':=hk;obtain⟨o,d,h1,h2,h3⟩:=(lK _ _ _ _).1 O;obtain⟨X,Y⟩:=hm j' b' rfl;rw[gH,h1]at h;refine Ed V W n o.guard j b (λk c U=>?_) h (W j' o b' X Y h1 O);exact⟨V j' o k c X h1 U,j',o,c,h1,U⟩
structure apo (F:Nat->Prop)(w0:Bs)(N:Nat)(ops:List Oper)(E:Nat->Prop)(own:Own)(st:St)(a:Act)(w:World):Prop where
 size:a.tmps.size=N
 defers:Dfr F w0 w a.defers
 hp:Hp F own w st.h
 fr:Fr w0 own w
 slots:∀ t,aqD F ops E own a w (lk t st.t) (a.tmps.getD t undef)
 tags:∀ (k:Nat) (o:Oper) (d j:Nat) (b:Bool) (s:SV),E k->mV ops k->ops[k]? =some o->o.dst=some d->lk d st.t=.gd j b s->o.guard=some (j,b)
 closed:∀ (k:Nat) (o:Oper) (j:Nat) (b:Bool),E k->ops[k]? =some o->o.guard=some (j,b)->E j
 chain:∀ (k:Nat) (o:Oper) (b:Bool),E k->mV ops k->ops[k]? =some o->yielded ops.toArray a.tmps k=some b->GOk ops a o.guard
variable {w0:Bs}{st:St}{g:Option (Nat×Bool)}
theorem Jt{nx:Nat}(hi:apo F w0 N ops E own st a w)(V:GOk ops a g)(O:∀ k c,g=some (k,c)->E k/\mV ops k)(x:Operand):
  Rel F own w (val ⟨ts,ops,g,st,nx⟩ x) (a.eval x):=by
 cases x with
 |tmp t=>
  have h:=hi.slots t;show Rel F own w (bF ops g (lk t st.t)) (a.tmps.getD t undef);cases U:lk t st.t with
  |gd j b s=>
   rw[U]at h;show Rel F own w (bif rE ops ops.length g j b then s else .any) _;cases W:rE ops ops.length g j b with
   |true=>exact h.2.2 (Ed hi.closed hi.chain _ g j b O W V)|false=>exact .any _
  |_=>rw[U]at h;exact h
 |const v=>exact .v v
 |func f=>exact .fn rfl rfl (λj s h=>by simp at h) (λj s h=>by simp at h)
 |global g=>exact .any _
theorem xv(hi:apo F w0 N ops E own st a w)(hg:GOk ops a g)(W:∀ k c,g=some (k,c)->E k/\mV ops k)(c x:Operand)(O:Bool)
  (hc:a.eval c=.bool O):Rel F own w (kA ops g c O (raw st.t x)) (a.eval x):=by
 have V:=Jt (ts:=λ_=>none) (nx:=0) hi hg W x;change Rel F own w (bF ops g (raw st.t x)) (a.eval x)at V;cases U:raw st.t x with
 |gd j b s=>
  rw[U]at V;show Rel F own w (bif CE b O&&K9 ops j c then s else bF ops g (.gd j b s)) _;cases X:CE b O&&K9 ops j c with
  |false=>exact V
  |true=>
   simp only[alt]at X;have e2:b=O:=by cases b <;>cases O <;>simp[CE]at X |-
   subst e2;cases x with
   |tmp t=>
    have h:=hi.slots t;have Y:lk t st.t=.gd j b s:=U;rw[Y]at h;refine h.2.2 ((lK _ _ _ _).2 ?_);have hd:=X.2;unfold K9 at hd;rw[gH]at hd;split at hd
    rename_i d tc hb;simp only[aob]at hb;obtain⟨o,h1,h2⟩:=hb;have e:=alu hd;subst e;refine⟨o,d,h1,h2,?_⟩;have:a.tmps.getD d undef=.bool b:=hc;simp only[alW]at this;grind [undef]
    cases hd
   |const v=>simp[raw]at U|func f=>simp[raw]at U|global q=>simp[raw]at U
 |_=>rw[U]at V;exact V
theorem pw (t:List (Nat×SV))(d:Nat)(s:SV)(n:Nat):lk n ((d,s)::t)=if d=n then s else lk n t:=by
 simp_all [lk]
theorem Ya (a:Act)(d:Nat)(v:Value)(hd:d<a.tmps.size)(n:Nat):(a.put (some d) v).tmps.getD n undef=if d=n then v else a.tmps.getD n undef:=by
 simp only[Act.put,alW,anO];grind
theorem H2{dst:Option Nat}{j:Nat}{q:Oper}{E:Nat}(U:ops[j]? =some q)(hd:q.dst=some E)(O:dst≠some E)(b:Bool):
  yielded ops.toArray (a.put dst v).tmps j=some b↔yielded ops.toArray a.tmps j=some b:=by
 rw[lK,lK];have:(a.put dst v).tmps[E]? =a.tmps[E]?:=by
  cases dst with
  |none=>rfl
  |some d=>
   simp_all [Act.put]
 grind
theorem apo.step{n:Nat}{Y:Nat->Prop}(hr:ROk N ops)(hE:∀ k,Y k↔E k\/k=n)(hnE:¬E n)(hi:apo F w0 N ops E own st a w){o:Oper}(ho:ops[n]? =some o){h':List Ob}{s:SV}
  (fr1:Fr { w:=w,own:=own} bo w') (hp:Hp F bo w' h')
  (hgE:∀ j b,o.guard=some (j,b)->E j) (hs:aqD F ops Y bo (a.put o.dst v) w' s v) (hch:∀ b:Bool,v=.bool b->GOk ops a o.guard) (aq3:∀ j b s',s=.gd j b s'->o.guard=some (j,b)):
  apo F w0 N ops Y bo (St.put ⟨st.t,h'⟩ o.dst s) (a.put o.dst v) w':=by
 have g:apx F own w bo w':=fr1.apD;have hfr:=hi.fr.trans fr1;have hyk:∀ j b,E j->mV ops j->(yielded ops.toArray (a.put o.dst v).tmps j=some b↔yielded ops.toArray a.tmps j=some b):=by
  intro j b hj O;obtain⟨q,dj,h1,h2,h3⟩:=hr.uniq j O;grind [H2]
 have hcl:∀ (k:Nat) (q:Oper) (j:Nat) (b:Bool),Y k->ops[k]? =some q->q.guard=some (j,b)->E j:=by
  intro k q j b W V U;rcases(hE k).1 W with W|rfl;exact hi.closed k q j b W V U;grind
 have hgk:∀ (k:Nat) (q:Oper),Y k->ops[k]? =some q->GOk ops a q.guard->GOk ops (a.put o.dst v) q.guard:=by
  intro k q W V hgo;cases U:q.guard with
  |none=>trivial
  |some g=>
   rw[U]at hgo;exact(hyk g.1 g.2 (hcl k q g.1 g.2 W V U) ⟨k,q,g.2,V,U⟩).2 hgo
 refine⟨?_,?_,?_,hfr,?_,?_,λk q j b W V U=>(hE j).2 (.inl (hcl k q j b W V U)),?_⟩;cases hd:o.dst <;>simp[Act.put,hi.size];have:(a.put o.dst v).defers=a.defers:=by cases hd:o.dst <;>rfl
 rw[this];exact hi.defers.fr fr1 hi.hp.apart;cases hd:o.dst <;>exact hp;intro t;have X:aqD F ops Y bo (a.put o.dst v) w' (lk t st.t) (a.tmps.getD t undef):=
  (hi.slots t).mono (λj hj=>(hE j).2 (.inl hj)) g (λj b hj O=>(hyk j b hj O).1)
 cases hd:o.dst with
 |none=>
  rw[hd]at X;exact X
 |some d=>
  rw[hd]at X hs;show aqD F ops Y bo _ w' (lk t ((d,s)::st.t)) _;rw[pw,Ya _ _ _ (by rw[hi.size];exact hr.dst n o d ho hd)];grind
 intro k q d j b s' W O V hqd hl;rcases(hE k).1 W with hkn|hkn;obtain⟨q',d',h1,h2,h3⟩:=hr.uniq k O;rw[V]at h1;cases h1;rw[hqd]at h2;cases h2;have hne:=h3 n o (λe=>hnE (e▸hkn)) ho;refine hi.tags k q d j b s' hkn O V hqd ?_;cases hd:o.dst with
 |none=>rw[hd]at hl;exact hl
 |some d2=>
  rw[hd]at hl;change lk d ((d2,s)::st.t)=_ at hl;simp_all [pw]
 subst hkn;rw[ho]at V;cases V;rw[hqd]at hl;change lk d ((d,s)::st.t)=_ at hl;rw[pw,if_pos rfl]at hl;grind
 intro k q b W O V hy;rcases(hE k).1 W with hkn|hkn;exact hgk k q W V (hi.chain k q b hkn O V ((hyk k b hkn O).1 hy));grind [lK,Act.put]
theorem ur {w0:Bs}{N:Nat}{E:Nat->Prop}{ops:List Oper}{st:St}{a:Act}(hi:apo F w0 N ops E own st a w){t:List (Nat×SV)}(n:Nat)
  (ht:∀ (j:Nat) (o:Oper) (d:Nat),j<n->E j->mV ops j->ops[j]? =some o->o.dst=some d->lk d t=lk d st.t) (hlt:∀ (i:Nat) (o:Oper) (j:Nat) (b:Bool),ops[i]? =some o->o.guard=some (j,b)->j<i):
  ∀ (m:Nat) (g:Nat×Bool),g.1<n->E g.1->mV ops g.1->GOk ops a (some g)->dR ops t m g
 |0,_,_,_,_,_=>trivial
 |m+1,(j,want),hjn,hj,hrf,hg=>by
  have V:yielded ops.toArray a.tmps j=some want:=hg;obtain⟨o,d,h1,h2,h3⟩:=(lK _ _ _ _).1 V;have W:=hi.slots d;have hv:a.tmps.getD d undef=.bool want:=by simp_all
  rw[hv]at W;simp only[dR,gH,h1,am6,h2,ht j o d hjn hj hrf h1 h2];split
  rename_i x X;rw[X]at W;have:=cK (F:=F) (own:=own) (w:=w) W;grind
  rename_i Y b x X;rw[X]at W;obtain⟨q1,q2,q3⟩:=W;have U:=hi.tags j o d Y b _ hj hrf h1 h2 X;have O:=hi.chain j o want hj hrf h1 V;rw[U]at O;have:=cK (q3 O);simp at this;exact⟨ur hi n ht hlt m (Y,b) (Nat.lt_trans (hlt j o Y b h1 U) hjn) q1 q2 O,this.symm⟩;trivial
theorem Ee {w0:Bs}{N:Nat}{E:Nat->Prop}{ops:List Oper}{st:St}{a:Act}(hi:apo F w0 N ops E own st a w){t:List (Nat×SV)}(n:Nat)
  (ht:∀ (j:Nat) (o:Oper) (d:Nat),j<n->E j->mV ops j->ops[j]? =some o->o.dst=some d->lk d t=lk d st.t) (hlt:∀ (i:Nat) (o:Oper) (j:Nat) (b:Bool),ops[i]? =some o->o.guard=some (j,b)->j<i):
  ∀ (m:Nat) (g:Nat×Bool),g.1<n->E g.1->mV ops g.1->¬GOk ops a (some g)->gC ops t m g
 |0,_,_,_,_,_=>trivial
 |m+1,(j,want),hjn,hj,hrf,hg=>by
  have hg':¬yielded ops.toArray a.tmps j=some want:=hg;simp only[gC,gH];cases W:ops[j]? with
  |none=>simp
  |some o=>
   cases hd:o.dst with
   |none=>simp[hd]
   |some d=>
    simp only[am6,hd,ht j o d hjn hj hrf W hd];have X:=hi.slots d;have hy:∀ x,a.tmps.getD d undef=.bool x->yielded ops.toArray a.tmps j=some x:=λx O=>by
     refine(lK _ _ _ _).2 ⟨o,d,W,hd,?_⟩;simp only[alW]at O;grind [undef]
    split
    rename_i x O;rw[O]at X;have:=cK (F:=F) (own:=own) (w:=w) X;grind
    rename_i V b x O;rw[O]at X;obtain⟨q1,q2,q3⟩:=X;have Y:=hi.tags j o d V b _ hj hrf W hd O;by_cases U:GOk ops a (some (V,b))
    right;have:=cK (q3 U);grind
    left;exact Ee hi n ht hlt m (V,b) (Nat.lt_trans (hlt j o V b W Y) hjn) q1 q2 U;trivial
theorem A5 {w0:Bs}{N:Nat}{E:Nat->Prop}{ops:List Oper}{st:St}{a:Act}(hi:apo F w0 N ops E own st a w):
  ∀ (m:Nat) (g:Nat×Bool),E g.1->mV ops g.1->¬GOk ops a (some g)->gC ops st.t m g
 |0,_,_,_,_=>trivial
 |m+1,(j,want),hj,hrf,hg=>by
  have hg':¬yielded ops.toArray a.tmps j=some want:=hg;simp only[gC,gH];cases ho:ops[j]? with
  |none=>simp
  |some o=>
   cases hd:o.dst with
   |none=>simp[hd]
   |some d=>
    simp only[am6,hd];have V:=hi.slots d;have hy:∀ x,a.tmps.getD d undef=.bool x->yielded ops.toArray a.tmps j=some x:=λx U=>by
     refine(lK _ _ _ _).2 ⟨o,d,ho,hd,?_⟩;simp only[alW]at U;grind [undef]
    split
    rename_i x U;rw[U]at V;have:=cK (F:=F) (own:=own) (w:=w) V;grind
    rename_i W b x U;rw[U]at V;obtain⟨q1,Y,X⟩:=V;by_cases O:GOk ops a (some (W,b))
    right;have:=cK (X O);grind
    left;exact A5 hi m (W,b) q1 Y O;trivial
variable {w0:Bs}{N:Nat}
structure Y1 (F:Nat->Prop)(w0:Bs)(N:Nat)(own:Own)(st:St)(a:Act)(w:World):Prop where
 size:a.tmps.size=N
 defers:Dfr F w0 w a.defers
 hp:Hp F own w st.h
 fr:Fr w0 own w
 slots:∀ t,Rel F own w (lk t st.t) (a.tmps.getD t undef)
variable {st:St}{a:Act}{E:Nat->Prop}
theorem Y1.start{own:Own}{w:World}(h:Y1 F w0 N own st a w)(ops:List Oper)(U:∀ k,¬E k):apo F w0 N ops E own st a w:=
 ⟨h.size,h.defers,h.hp,h.fr,λt=>wE (h.slots t),λk _ _ _ _ _ O=>(U k O).elim,λk _ _ _ O=>(U k O).elim,λk _ _ O=>(U k O).elim⟩
theorem Ju (t:Nat):∀ l:List (Nat×SV),lk t (apG l)=match lk t l with| .gd .. =>.any|s=>s
 | [] =>rfl
 |(d,s)::r=>by
  have E:=Ju t r;cases s <;>simp only[apG,lk] <;>(cases Nat.beq d t <;>simp only[cond_true,cond_false] <;>first|exact E|rfl)
theorem PY (h:List Ob)(t:Nat):∀ l:List (Nat×SV),lk t (NK h l)=TU h (lk t l)
 | [] =>rfl
 |(d,s)::r=>by
  have E:=PY h t r;simp only[NK,lk];grind
def LA:∀ (h:List Ob) (id:Nat),aq (yn h) id=abK (aq h id)
 | [],_=>rfl|o::_,0=>rfl|_::r,n+1=>LA r n
theorem H3:∀ h:List Ob,(yn h).length=h.length
 | [] =>rfl
 |_::r=>by simp only[yn,aly,H3 r]
theorem Ud {own:Own}{w:World}{h:List Ob}(U:Hp F own w h){s:SV}{v:Value}(E:Rel F own w s v):Rel F own w (TU h s) v:=by
 cases s with
 |os id=>
  simp only[TU];cases W:aq h id with
  |fwd n=>
   cases n with
   |none=>exact E
   |some n=>
    simp only[abJ];cases E with
    |os h1 h2=>
     obtain⟨hd',O,e⟩:=U.at W rfl;rw[h1]at O;cases O;obtain⟨X,V,k2,Y⟩:=e n rfl;rw[<-k2]at h2 |-;exact .os V h2
  |_=>exact E
 |_=>exact E
theorem Y1.ap8{own:Own}{w:World}(h:Y1 F w0 N own st a w):Y1 F w0 N own (Sx.ap8 st) a w:=by
 unfold Sx.ap8;cases oo st.h with
 |false=>exact h
 |true=>
  refine⟨h.size,h.defers,⟨λid hd e=>?_,h.hp.aoY,h.hp.apart,h.hp.inj,h.hp.lt,λid hd=>?_⟩,h.fr,λt=>?_⟩;show id< (yn st.h).length;rw[H3];exact h.hp.dom id hd e;change dI (aq (yn st.h) id)=false at hd;change ∃ hd,own id=some hd/\aps F own w hd (aq (yn st.h) id);rw[LA]at hd |-;cases E:aq st.h id with
  |fwd n=>rw[E]at hd;cases hd|dead=>rw[E]at hd;cases hd|_=>exact h.hp.at E rfl
  show Rel F own w (lk t (NK st.h st.t)) _;rw[PY];exact Ud h.hp (h.slots t)
variable {ops:List Oper}
theorem Y1.finish{own:Own}{w:World}(h:apo F w0 N ops E own st a w):Y1 F w0 N own (wx ops st) a w:=by
 unfold wx;refine Y1.ap8 ?_;cases V:ops.any (·.guard.isSome)with
 |true=>
  refine⟨h.size,h.defers,h.hp,h.fr,λt=>?_⟩;have O:=h.slots t;show Rel F own w (lk t (apG st.t)) _;rw[Ju];cases U:lk t st.t with
  |gd j b s=>exact .any _|_=>rw[U]at O;exact O
 |false=>
  refine⟨h.size,h.defers,h.hp,h.fr,λt=>?_⟩;have O:=h.slots t;show Rel F own w (lk t st.t) _;cases U:lk t st.t with
  |gd j b s=>
   rw[U]at O;obtain⟨_,⟨i,o,W,h1,h2⟩,_⟩:=O;grind
  |_=>rw[U]at O;exact O
theorem Y1.apG{own:Own}{w:World}(h:apo F w0 N ops E own st a w):Y1 F w0 N own ⟨Sx.apG st.t,st.h⟩ a w:=by
 refine⟨h.size,h.defers,h.hp,h.fr,λt=>?_⟩;have O:=h.slots t;show Rel F own w (lk t (Sx.apG st.t)) _;rw[Ju];cases U:lk t st.t with
 |gd j b s=>exact .any _|_=>rw[U]at O;exact O
end
inductive PF:SV->Prop where
 |any:PF .any
 |v (x:Value):PF (.v x)
 |e0:PF .e0
 |rc {k:Tag} {l:List k.T}:PF (.rc k l)
 |rs {k:Tag} {l:List k.T}:PF (.rs k l)
 |rm {k k2:Tag} {l:List (k.T×k2.T)}:PF (.rm k k2 l)
 |ep {l:List SV} {off:Nat}:(∀ (j:Nat) (s:SV),l[j]? =some s->PF s)->PF (.ep l off)
 |ls {z:Nat} {l:List SV}:(∀ (j:Nat) (s:SV),l[j]? =some s->PF s)->PF (.ls z l)
 |agg {l:List SV}:(∀ (j:Nat) (s:SV),l[j]? =some s->PF s)->PF (.agg l)
 |tup {l:List SV}:(∀ (j:Nat) (s:SV),l[j]? =some s->PF s)->PF (.tup l)
 |fn {f:FuncId} {l m:List SV}:(∀ (j:Nat) (s:SV),l[j]? =some s->PF s)->(∀ (j:Nat) (s:SV),m[j]? =some s->PF s)->PF (.fn f l m)
theorem sw {k:Tag}{x:k.T}{j:Nat}{s:SV}(h:(cellsOf k x)[j]? =some s):PF s:=by
 rcases wz h with⟨y,rfl,_⟩ | ⟨k',l',rfl,_⟩ | ⟨k',k2,l',rfl,_⟩ | ⟨f,rfl,_⟩;exact .v y;exact .rs;exact .rm;exact .fn (λj s E=>by simp at E) (λj s E=>by simp at E)
theorem tV (k:Tag)(x:k.T):PF (svT k x):=by
 unfold svT;cases oi k with
 |true=>exact .agg λj s E=>sw E
 |false=>
  simp only[cond_false,gH];cases h:(cellsOf k x)[0]? with
  |none=>exact .any|some s=>exact sw h
theorem gT:∀ (n:Nat) (s:SV),dA n s=true->PF s
 |n,.v x,_=>.v x|n,.rs k l,_=>.rs|n,.rm _ _ _,_=>.rm|n,.e0,_=>.e0|n,.rc k l,_=>.rc|n,.any,_=>.any
 |n+1,.ep l _,h=>.ep λj s E=>gT n s (by grind [dA])
 |n+1,.ls _ l,h=>.ls λj s E=>gT n s (by grind [dA])
 |n+1,.agg l,h=>.agg λj s E=>gT n s (by grind [dA])
 |n+1,.tup l,h=>.tup λj s E=>gT n s (by grind [dA])
 |n+1,.fn _ l m,h=>.fn (λj s E=>gT n s (by simp only[dA,alt,al0]at h;grind)) (λj s E=>gT n s (by simp only[dA,alt,al0]at h;grind))
 |0,.ep _ _,h|0,.ls _ _,h|0,.agg _,h|0,.tup _,h|0,.fn _ _ _,h=>by simp[dA]at h
 |0,.ptr _ _,h|0,.os _,h|0,.rp _ _ _ _,h|0,.gr _ _,h|0,.gp _ _ _ _ _,h|0,.nw _ _,h|0,.nm _ _ _,h|0,.ng _ _,h|0,.gd _ _ _,h|0,.vw _ _ _ _,h=>by simp[dA]at h
 |_+1,.ptr _ _,h|_+1,.os _,h|_+1,.rp _ _ _ _,h|_+1,.gr _ _,h|_+1,.gp _ _ _ _ _,h|_+1,.nw _ _,h|_+1,.nm _ _ _,h|_+1,.ng _ _,h|_+1,.gd _ _ _,h|_+1,.vw _ _ _ _,h=>by simp[dA]at h
section
variable {P:Program}{F F':Nat->Prop}{own bo:Own}{w w':World}{ts:Tis}
variable {v:Value}
theorem Rel.ao_{s:SV}(hr:Rel F own w s v)(U:PF s)(ho:∀ b,¬df F own b->¬df F' bo b):Rel F' bo w s v:=by
 induction hr with
 |any v=>exact .any v|v x=>exact .v x|ptr h1 h2=>cases U|os h1 h2=>cases U|e0=>exact .e0|rc _ V=>exact .rc (V .rs)|rp h1 h2 h3=>cases U|gr h1 h2 h3=>cases U|gp h1 h2 h3=>cases U|vw h1 h2 h3=>cases U
 |ep c h1 _ V=>cases U with|ep W=>exact .ep c (λj s E=>⟨ho _ (h1 j s E).1,(h1 j s E).2⟩) λj s E=>V j s E (W j s E)
 |rs c O X h1 _ V=>exact .rs c O X (λi x hi j s E=>⟨ho _ (h1 i x hi j s E).1,(h1 i x hi j s E).2⟩) λi x hi j s E=>V i x hi j s E (sw E)
 |rs0=>exact .rs0
 |ls c hz O h1 _ V=>cases U with|ls W=>exact .ls c hz O (λj s E=>⟨ho _ (h1 j s E).1,(h1 j s E).2⟩) λj s E=>V j s E (W j s E)
 |rm ck cv es clock O h1 h2 h3 _ _ Y ih2=>exact .rm ck cv es clock (ho _ O) h1 h2 h3 (λi x hi=>Y i x hi (tV _ _)) (λi x hi=>ih2 i x hi (tV _ _))
 |rm0=>exact .rm0
 |agg O _ V=>cases U with|agg W=>exact .agg O λj s E=>V j s E (W j s E)
 |tup O _ V=>cases U with|tup W=>exact .tup O λj s E=>V j s E (W j s E)
 |fn O X _ _ Y ih2=>cases U with|fn W hq'=>exact .fn O X (λj s E=>Y j s E (W j s E)) λj s E=>ih2 j s E (hq' j s E)
theorem px{s:SV}(h:Rel F dB w s v):PF s:=by
 generalize U:dB=o at h;induction h with
 |any v=>exact .any|v x=>exact .v x|ptr h1 h2=>subst U;cases h1|os h1 h2=>subst U;cases h1|e0=>exact .e0|rc _ _=>exact .rc|rp h1 h2 Y=>subst U;cases h1|gr h1 h2 Y=>subst U;cases h1|gp h1 h2 Y=>subst U;cases h1|vw h1 h2 Y=>subst U;cases h1
 |ep c h1 _ O=>exact .ep λj s E=>O j s E
 |rs c V h0' h1 _ O=>exact .rs|rs0=>exact .rs
 |ls c hz V h1 _ O=>exact .ls λj s E=>O j s E
 |rm ck cv es clock V h1 h2 Y _ _ W X=>exact .rm|rm0=>exact .rm
 |agg V _ O=>exact .agg λj s E=>O j s E
 |tup V _ O=>exact .tup λj s E=>O j s E
 |fn V h0' _ _ W X=>exact .fn (λj s E=>W j s E) λj s E=>X j s E
theorem ou {α β:Type}{f:α->β}{l:List α}{j:Nat}{s:β}(h:(l.map f)[j]? =some s):∃ x,l[j]? =some x/\f x=s:=by
 simpa using h
theorem nX {b:Nat}(h:¬F b):¬df F dB b:=by
 rintro (E| ⟨id,hd,e,_⟩);exact h E;cases e
theorem Jv {b:Nat}(h:¬df F own b):¬F b:=λE=>h (.inl E)
theorem N8(W:∀ b,F' b->F b){k:Tag}{l:List k.T}{bs:List Nat}(hr:ao8 F own w k l v bs)(O:∀ b∈bs,¬F b):Rel F' dB w (.rs k l) v:=by
 rcases hr with⟨a,rfl,rfl,_⟩ | ⟨b,o,cap,cs,ty,rfl,rfl,h3,h4,h5,h6,V⟩;exact .rs0;refine .rs (λi j=>cs.getD (o+i*aa k+j) undef) h5 h6 (λi x hi j s E=>?_) (λi x hi j s E=>?_);obtain⟨u,X,Y⟩:=V i x hi j s E;refine⟨nX λU=>O b (by simp) (W _ U),?_⟩;rw[eE h3,X];simp_all;obtain⟨u,X,Y⟩:=V i x hi j s E;have:cs.getD (o+i*aa k+j) undef=u:=by simp_all
 rw[this];exact Y.ao_ (sw E) λb hb=>nX λU=>hb (.inl (W _ U))
variable {h:List Ob}
theorem Ue(hp:Hp F own w h){id sz cap:Nat}{lo hi:Int}{hd:Hd}{a:Option Addr}(h1:own id=some hd)(h2:abL hd.v sz lo hi a)(h3:hi.toNat - lo.toNat<=cap):Rel F dB w (XW sz lo hi (aq h id)) (.slice a (hi.toNat - lo.toNat) cap):=by
 cases ho:aq h id with
 |row k l=>
  simp only[XW];cases hb:Nat.beq sz (aa k)with
  |false=>exact .any _
  |true=>
   simp only[cond_true];have hsz:=alu hb;subst hsz;obtain⟨hd',e0,e⟩:=hp.at ho rfl;rw[h1]at e0;cases e0;have aqY:hi.toNat<=lo.toNat->Rel F dB w (.rs k ((l.take hi.toNat).drop lo.toNat)) (.slice a (hi.toNat - lo.toNat) cap):=λhle=>by
    have U:(l.take hi.toNat).drop lo.toNat=[]:=aoi (by grind);have e2:hi.toNat - lo.toNat=0:=by omega
    rw[U,e2];exact .rs0
   by_cases hle:hi.toNat<=lo.toNat
   grind
   rcases h2 with h2| ⟨b',X,n',cap',q1,q2,rfl⟩;omega;rcases e with⟨a0,U,rfl,_⟩ | ⟨b,o,cap0,cs,ty,U,e2,e3,e4,e5,e6,e7⟩;grind
   rw[q1]at U;simp only[ams,alx,amT]at U;obtain⟨⟨rfl,rfl,_⟩,rfl,rfl⟩:=U;have V:((l.take hi.toNat).drop lo.toNat).length=hi.toNat - lo.toNat:=by grind
   have O:∀ i x,((l.take hi.toNat).drop lo.toNat)[i]? =some x->l[lo.toNat+i]? =some x:=λi x E=>by
    grind
   have Y:∀ i j,b'.succ=b'.succ->X+lo.toNat*aa k+i*aa k+j=X+(lo.toNat+i)*aa k+j:=λi j _=>by grind
   rw[<-V];refine .rs (λi j=>cs.getD (X+lo.toNat*aa k+i*aa k+j) undef) (by omega) (by omega) (λi x E j s W=>?_) (λi x E j s W=>?_);obtain⟨u,m1,m2⟩:=e7 _ x (O i x E) j s W;refine⟨nX λhf=>hp.apart id hd b' h1 (by rw[e2];simp) hf,?_⟩;rw[eE e3,Y i j rfl,m1];simp_all;obtain⟨u,m1,m2⟩:=e7 _ x (O i x E) j s W;have:cs.getD (X+lo.toNat*aa k+i*aa k+j) undef=u:=by simp_all
   rw[this];exact m2.ao_ (sw W) λb hb=>nX λhf=>hb (.inl hf)
 |_=>exact .any _
theorem LB (k:Tag)(l:List (List k.T)):(∃ (k':Tag) (l':List k'.T),KZ k l=.rs k' l'/\l'.length=l.length/\aa k'=1/\∀ (i:Nat) (x:k'.T),l'[i]? =some x->cellsOf k' x=[.rs k (l.getD i [])])\/KZ k l=.any:=by
 cases k <;>first|exact .inr rfl|(left;exact⟨_,_,rfl,rfl,rfl,λi x E=>by simp[List.getD,E,cellsOf]⟩)
theorem Yb(O:Hp F own w h){id:Nat}(hr:Rel F own w (.os id) v):Rel F dB w (frz (aq h id)) v:=by
 obtain⟨hd,h1,rfl,h2⟩:=iD hr;cases ho:aq h id with
 |row k l=>
  obtain⟨hd',E,e⟩:=O.at ho rfl;rw[h1]at E;cases E;exact N8 (λ_ h=>h) e λb W=>O.apart id hd b h1 W
 |fz k l=>
  obtain⟨hd',E,e⟩:=O.at ho rfl;rw[h1]at E;cases E;exact Rel.ao_ e .rs λb W=>nX (Jv W)
 |mp kk vk l U=>
  show Rel F dB w (bif noE U then .rm kk vk l else .any) hd.v;cases hq:noE U with
  |false=>exact .any _
  |true=>
   obtain⟨hd',E,b,es,clk,m1,m2,m3,m4,_⟩:=O.at ho rfl;rw[kg hq]at m4;rw[h1]at E;cases E;rw[m1];have hnb:¬df F dB b:=nX (O.apart id hd b h1 (by simp[m2]));have hg:∀ i,es[i]? =some ⟨(es.getD i default).key,(es.getD i default).val,(es.getD i default).born⟩\/es.size<=i:=λi=>by
    rcases amz i es.size with hlt|hge <;>simp_all
   refine .rm (λi=>(es.getD i default).key) (λi=>(es.getD i default).val) es clk hnb m3 m4.1 (λi x hi=>?_) (λi x hi=>?_) (λi x hi=>?_);obtain⟨e,X,e2,e3,Y⟩:=m4.2 i x hi;grind
   obtain⟨e,X,e2,e3,Y⟩:=m4.2 i x hi;have:es.getD i default=e:=by simp_all
   rw[this];exact e3.ao_ (tV _ _) λb W=>nX (Jv W);obtain⟨e,X,e2,e3,Y⟩:=m4.2 i x hi;have:es.getD i default=e:=by simp_all
   rw[this];exact Y.ao_ (tV _ _) λb W=>nX (Jv W)
 |apg k l=>
  obtain⟨hd',E,e⟩:=O.at ho rfl;rw[h1]at E;cases E;show Rel F dB w (KZ k l) hd.v;rcases LB k l with⟨k',l',q1,q2,q3,q4⟩ |q;rw[q1];rcases e with⟨X,rfl,_⟩ | ⟨b,o,cap,cs,ty,bs,X,e2,e3,Y,e5,e6,e7,e8,e9⟩;have:l'=[]:=alI (by omega);rw[this,X];exact .rs0;rw[X,<-q2];have hvl:=e9.len;refine .rs (λi j=>hd.vs.getD i undef) (by omega) (by omega) (λi x hi j s V=>?_) (λi x hi j s V=>?_);have hil:i<hd.vs.length:=by grind
  rw[q4 i x hi]at V;cases j with
  |succ j=>simp at V
  |zero=>
   refine⟨nX (O.apart id hd b h1 (by simp[e2])),?_⟩;rw[q3,am_,amy,eE Y];grind
  have hil:i<hd.vs.length:=by grind
  rw[q4 i x hi]at V;cases j with
  |succ j=>simp at V
  |zero=>
   simp at V;subst V;obtain⟨b1,k1,k2,k3,k4⟩:=e9.get (sr (d:=undef) hil);exact N8 (λ_ h=>h) k3 λc hc=>O.apart id hd c h1 (by grind)
  rw[q];exact .any _
 |_=>exact .any _
theorem apm.ep {k:Tag}{l:List k.T}{o b:Nat}{cs:Array Value}{ty:TypeId}(X:w.heap[b]? =some (.cells cs ty (0,0)))(O:apm F own w k l o cs)(U:¬F b){i:Nat}(hi:i<l.length)(off:Nat):Rel F dB w (.ep (cellsOf k (l.getD i (eC k))) off) (.pointer (some ⟨b,o+i*aa k+off,none⟩)):=by
 refine .ep (λj=>cs.getD (o+i*aa k+j) undef) (λj s E=>?_) (λj s E=>?_);obtain⟨W,V⟩:=O.get hi E;grind [nX,eE]
 obtain⟨W,V⟩:=O.get hi E;exact V.ao_ (sw E) λb U=>nX (Jv U)
theorem zN(X:Hp F own w h):∀ (n:Nat) (s:SV) (v:Value),Rel F own w s v->Rel F dB w (gw h n s) v:=by
 have pf:∀ (n:Nat) (s:SV) (v:Value),Rel F own w s v->(∀ l o,s≠ .ep l o)->(∀ z l,s≠ .ls z l)->(∀ l,s≠ .agg l)->(∀ l,s≠ .tup l)->(∀ f l m,s≠ .fn f l m)->(∀ i o,s≠ .ptr i o)->Rel F dB w (gw h n s) v:=by
  intro n s v O n1 n2 n3 n4 n5 n6;cases O with
  |any=>cases n <;>exact .any _|v x=>cases n <;>exact .v _|ptr=>grind|os h1 h2=>cases n <;>exact Yb X (.os h1 h2)|vw h1 h2 h3=>cases n <;>exact Ue X h1 h2 h3|e0=>cases n <;>exact .e0
  |rc W=>cases n <;>exact W.ao_ .rs λb Y=>nX (Jv Y)
  |rp h1 h2 h3=>
   rename_i E id off nn cap b o i hd;have key:Rel F dB w (bif Nat.beq E 0 then .any else XV E off i (aq h id)) (.pointer (some ⟨b,o+i.toNat*E+off,none⟩)):=by
    cases hz:Nat.beq E 0 with
    |true=>exact .any _
    |false=>
     simp only[cond_false];cases ho:aq h id with
     |row k l=>
      simp only[XV];cases Y:Nat.beq E (aa k)with
      |false=>exact .any _
      |true=>
       have hsz:=alu Y;obtain⟨hd',e0,e⟩:=X.at ho rfl;rw[h1]at e0;cases e0;rcases e with⟨a,V,_⟩ | ⟨b',o',cap',cs,ty,V,e2,e3,e4,e5,e6,e7⟩;grind
       rw[h2]at V;simp only[ams,alx,amT]at V;obtain⟨⟨rfl,rfl,_⟩,rfl,rfl⟩:=V;rw[hsz];exact apm.ep e3 e7 (X.apart id hd b h1 (by simp[e2])) h3 off
     |_=>exact .any _
   cases n <;>exact key
  |gr h1 h2 h3=>
   rename_i id i hd;have key:Rel F dB w (TR i (aq h id)) v:=by
    cases ho:aq h id with
    |apg k l=>
     obtain⟨hd',e0,e⟩:=X.at ho rfl;rw[h1]at e0;cases e0;rcases e with⟨_,_,V,_⟩ | ⟨b,o,cap,cs,ty,bs,V,e2,e3,e4,e5,e6,e7,e8,e9⟩;grind
     obtain⟨b1,k1,k2,k3,k4⟩:=e9.get h2;exact N8 (λ_ h=>h) k3 λc hc=>X.apart id hd c h1 (by grind)
    |_=>exact .any _
   cases n <;>exact key
  |gp h1 h2 h3=>
   rename_i E id off nn cap b o i j hd;have key:Rel F dB w (bif Nat.beq E 0 then .any else PD E off i j (aq h id)) (.pointer (some ⟨b,o+j.toNat*E+off,none⟩)):=by
    cases hz:Nat.beq E 0 with
    |true=>exact .any _
    |false=>
     simp only[cond_false];cases ho:aq h id with
     |apg k l=>
      simp only[PD];cases Y:Nat.beq E (aa k)with
      |false=>exact .any _
      |true=>
       have hsz:=alu Y;obtain⟨hd',e0,e⟩:=X.at ho rfl;rw[h1]at e0;cases e0;rcases e with⟨_,_,V,_⟩ | ⟨b',o',cap',cs,ty,bs,V,e2,e3,e4,e5,e6,e7,e8,e9⟩;grind
       obtain⟨b1,k1,k2,k3,k4⟩:=e9.get h2;rcases k3 with⟨a,m1,_⟩ | ⟨b2,o2,cap2,cs2,ty2,m1,m2,m3,m4,m5,m6,m7⟩;grind
       simp only[ams,alx,amT]at m1;obtain⟨⟨rfl,rfl,_⟩,rfl,rfl⟩:=m1;rw[hsz];exact apm.ep m3 m7 (X.apart id hd b h1 (by grind)) h3 off
     |_=>exact .any _
   cases n <;>exact key
  |ep=>grind
  |rs c W h0' h1 h2=>cases n <;>exact Rel.ao_ (.rs c W h0' h1 h2) .rs λb Y=>nX (Jv Y)
  |rs0=>cases n <;>exact .rs0|ls=>grind
  |rm ck cv es clock W h1 h2 h3 h4 h5=>cases n <;>exact Rel.ao_ (.rm ck cv es clock W h1 h2 h3 h4 h5) .rm λb Y=>nX (Jv Y)
  |rm0=>cases n <;>exact .rm0|agg=>grind|tup=>grind|fn=>grind
 intro n;induction n with
 |zero=>
  intro s v O;cases s <;>first|exact .any _|(refine pf 0 _ _ O ?_ ?_ ?_ ?_ ?_ ?_ <;>intros <;>(intro e;cases e)) |cases O
 |succ n ih=>
  intro s v O;cases s with
  |ptr id off=>
   cases O with
   |ptr h1 h2=>
    rename_i b hd;simp only[gw];cases ho:aq h id with
    |cells l=>
     simp only[RH];obtain⟨hd',e0,b',cs,ty,V,e2,e3,e4,e5⟩:=X.at ho rfl;rw[h1]at e0;cases e0;rw[h2]at V;cases V;have:=Rel.ep (F:=F) (own:=dB) (w:=w) (cells:=l.map (gw h n)) (off:=off) (b:=b) (o:=0) (λj=>cs.getD j undef)
      (λj s U=>by
       obtain⟨x,hx,rfl⟩:=ou U;refine⟨nX (X.apart _ _ b h1 (by simp[e2])),?_⟩;have hjl:j<cs.size:=by grind
       rw[alF,eE e3];simp[hjl])
      (λj s U=>by
       grind)
     grind
    |_=>exact .any _
  |ep l o=>
   cases O with
   |ep c h1 h2=>
    simp only[gw];exact .ep c (λj s U=>by grind [nX,Jv]) (λj s U=>by grind)
  |ls z l=>
   cases O with
   |ls c hz W h1 h2=>
    simp only[gw];have:=Rel.ls (F:=F) (own:=dB) (w:=w) (z:=z) (l:=l.map (gw h n)) c (by simpa using hz) W (λj s U=>by obtain⟨x,hx,rfl⟩:=ou U;exact⟨nX (Jv (h1 j x hx).1),(h1 j x hx).2⟩) (λj s U=>by grind);grind
  |agg l=>cases O with|agg W h1=>simp only[gw];exact .agg (by grind) λj s U=>by grind
  |tup l=>cases O with|tup W h1=>simp only[gw];exact .tup (by grind) λj s U=>by grind
  |fn f l m=>cases O with|fn W h0' h1 h2=>simp only[gw];exact .fn (by grind) (by grind) (λj s U=>by grind) λj s U=>by grind
  |_=>first|(refine pf (n+1) _ _ O ?_ ?_ ?_ ?_ ?_ ?_ <;>intros <;>(intro e;cases e)) |cases O
theorem Uf:∀ (n:Nat) (s:SV) (v:Value),PF s->Rel F own w s v->Rel (df F own) dB w (gw h n s) v:=by
 have E:∀ b,¬df F own b->¬df (df F own) dB b:=λb hb=>nX hb;intro n;induction n with
 |zero=>
  intro s v W O;cases W with
  |any=>exact .any _|v x=>exact O.ao_ (.v x) E|e0=>exact O.ao_ .e0 E
  |rc=>cases O with|rc U=>exact U.ao_ .rs E
  |rs=>exact O.ao_ .rs E|rm=>exact O.ao_ .rm E|_=>exact .any _
 |succ n ih=>
  intro s v W O;cases W with
  |any=>exact .any _|v x=>exact O.ao_ (.v x) E|e0=>exact O.ao_ .e0 E
  |rc=>cases O with|rc U=>exact U.ao_ .rs E
  |rs=>exact O.ao_ .rs E|rm=>exact O.ao_ .rm E
  |ep X=>
   cases O with
   |ep c h1 h2=>
    simp only[gw];exact .ep c (λj s V=>by grind) (λj s V=>by grind)
  |ls X=>
   cases O with
   |ls c hz U h1 h2=>
    simp only[gw];rename_i z l m b o cap;have:=Rel.ls (F:=df F own) (own:=dB) (w:=w) (z:=z) (l:=l.map (gw h n)) c (by simpa using hz) U (λj s V=>by obtain⟨x,Y,rfl⟩:=ou V;exact⟨E _ (h1 j x Y).1,(h1 j x Y).2⟩) (λj s V=>by grind);grind
  |agg X=>cases O with|agg U h1=>simp only[gw];exact .agg (by grind) λj s V=>by grind
  |tup X=>cases O with|tup U h1=>simp only[gw];exact .tup (by grind) λj s V=>by grind
  |fn X hq'=>cases O with|fn U h0' h1 h2=>simp only[gw];exact .fn (by grind) (by grind) (λj s V=>by grind) λj s V=>by grind
def cnt (n:Nat):List SV->Nat
 | [] =>0|x::r=>(aV n x).length+cnt n r
def wF (F:Nat->Prop)(own:Own)(w:World):Nat->Nat->SV->Value->Prop
 |_,b,.nw _ _,v=>∃ hd,own b=some hd/\v=hd.v/\pr v=true|_,b,.nm _ _ _,v=>∃ hd,own b=some hd/\v=hd.v/\pr v=true|_,b,.ng _ _,v=>∃ hd,own b=some hd/\v=hd.v/\pr v=true|n+1,b,.agg l,v=>∃ vs,v=.agg vs/\vs.size=l.length/\∀ (j:Nat) (s:SV),l[j]? =some s->wF F own w n (b+cnt n (l.take j)) s (vs.getD j undef)|n+1,b,.tup l,v=>∃ vs,v=.tuple vs/\vs.size=l.length/\∀ (j:Nat) (s:SV),l[j]? =some s->wF F own w n (b+cnt n (l.take j)) s (vs.getD j undef)|_,_,s,v=>Rel (df F own) dB w s v
theorem yT (f:Nat->SV->SV)(n:Nat):∀ (l:List SV) (b j:Nat) (s:SV),(rb f (λs=>(aV n s).length) b l)[j]? =some s->∃ x,l[j]? =some x/\s=f (b+cnt n (l.take j)) x
 | [],b,j,s,h=>by simp[rb]at h
 |x::r,b,0,s,h=>by grind [rb,cnt]
 |x::r,b,j+1,s,h=>by
  simp[rb]at h;obtain⟨y,h1,h2⟩:=yT f n r _ j s h;grind [cnt]
theorem yU (f:Nat->SV->SV)(c:SV->Nat):∀ (l:List SV) (b:Nat),(rb f c b l).length=l.length
 | [],b=>rfl
 |x::r,b=>by simp[rb,yU f c r]
theorem H4:∀ (n:Nat) (s:SV) (v:Value),jm n s=true->(∀ k l,s≠ .nw k l)->(∀ k k2 l,s≠ .nm k k2 l)->(∀ k l,s≠ .ng k l)->(∀ l,s≠ .agg l)->(∀ l,s≠ .tup l)->Rel F own w s v->Rel F' bo w' s v:=by
 intro n s v h X O W U V E;cases s with
 |v x=>cases E;exact .v _|nw k l=>grind|nm k k2 l=>grind|ng k l=>grind|agg l=>grind|tup l=>grind|_=>cases n <;>simp[jm]at h
theorem Ef {P1:Own}{m:Nat}(U:∀ id hd,bo id=some hd->P1 (id+m)=some hd):∀ (n b:Nat) (s:SV) (v:Value),wF F bo w n b s v->
  ((∀ c,¬df (df F bo) dB c->¬df F' P1 c)\/jm n s=true)->Rel F' P1 w (jn n (b+m) s) v:=by
 intro n;induction n with
 |zero=>
  intro b s v h hc;cases s with
  |nw k l=>obtain⟨hd,h1,rfl,O⟩:=h;exact .os (U _ _ h1) O
  |nm k k2 l=>obtain⟨hd,h1,rfl,O⟩:=h;exact .os (U _ _ h1) O
  |ng k l=>obtain⟨hd,h1,rfl,O⟩:=h;exact .os (U _ _ h1) O
  |agg l=>
   have E:Rel (df F bo) dB w (.agg l) v:=h;rcases hc with hc|hc;exact E.ao_ (px E) hc;simp[jm]at hc
  |tup l=>
   have E:Rel (df F bo) dB w (.tup l) v:=h;rcases hc with hc|hc;exact E.ao_ (px E) hc;simp[jm]at hc
  |_=>
   have E:Rel (df F bo) dB w _ v:=h;rcases hc with hc|hc;exact E.ao_ (px E) hc;exact H4 _ _ _ hc (by intros;intro e;cases e) (by intros;intro e;cases e) (by intros;intro e;cases e) (by intros;intro e;cases e) (by intros;intro e;cases e) E
 |succ n X=>
  intro b s v h hc;cases s with
  |nw k l=>obtain⟨hd,h1,rfl,O⟩:=h;exact .os (U _ _ h1) O
  |nm k k2 l=>obtain⟨hd,h1,rfl,O⟩:=h;exact .os (U _ _ h1) O
  |ng k l=>obtain⟨hd,h1,rfl,O⟩:=h;exact .os (U _ _ h1) O
  |agg l=>
   obtain⟨vs,rfl,h1,h2⟩:=h;refine .agg (by grind [yU]) λj s V=>?_;obtain⟨x,W,rfl⟩:=yT _ n l _ j s V;grind [jm]
  |tup l=>
   obtain⟨vs,rfl,h1,h2⟩:=h;refine .tup (by grind [yU]) λj s V=>?_;obtain⟨x,W,rfl⟩:=yT _ n l _ j s V;grind [jm]
  |_=>
   have E:Rel (df F bo) dB w _ v:=h;rcases hc with hc|hc;exact E.ao_ (px E) hc;exact H4 _ _ _ hc (by intros;intro e;cases e) (by intros;intro e;cases e) (by intros;intro e;cases e) (by intros;intro e;cases e) (by intros;intro e;cases e) E
theorem Eg:∀ (n:Nat) {s:SV} {v:Value},Rel F own w s v->aV n s=[]
 |0,s,v,h=>by cases h <;>rfl
 |n+1,s,v,h=>by
  cases h <;>first|rfl|skip
  rename_i l vs U h1;simp only[aV,aoc];intro x O;obtain⟨j,E⟩:=ame O;exact Eg n (h1 j x E);rename_i l vs U h1;simp only[aV,aoc];intro x O;obtain⟨j,E⟩:=ame O;exact Eg n (h1 j x E)
theorem Ug:∀ (n b:Nat) {s:SV} {v:Value},Rel F dB w s v->wF F dB w n b s v:=by
 have V:∀ c,¬df F dB c->¬df (df F dB) dB c:=λc hc=>nX hc;intro n;induction n with
 |zero=>intro b s v h;have:=h.ao_ (px h) V;cases s <;>first|exact this|cases h
 |succ n U=>
  intro b s v h;have:=h.ao_ (px h) V;cases s with
  |agg l=>cases h with|agg E h1=>exact⟨_,rfl,E,λj s O=>U _ (h1 j s O)⟩
  |tup l=>cases h with|tup E h1=>exact⟨_,rfl,E,λj s O=>U _ (h1 j s O)⟩
  |nw=>cases h|nm=>cases h|ng=>cases h|gd=>cases h|_=>exact this
end
def an:Con->Prop
 | .det p _=>p| .rel _ p _ _=>p| .may _ _ _=>True
def dW:Con->SV->Prop
 | .det _ s,s'=>s'=s| .rel _ _ post out,s'=>∃ r,post r/\s'=out r| .may ok s _,s'=>ok=true/\s'=s
def kY:Con->Value->Prop
 | .may ok _ x,x'=>ok=false/\x'=x|_,_=>False
section
variable {P:Program}{F F':Nat->Prop}{own bo:Own}{w w':World}{ts:Tis}
structure Handed (F:Nat->Prop)(w:World)(bo:Own)(w':World)(s:SV)(u:Value):Prop where
 hp:Hp F bo w' (aV 3 s)
 val:wF F bo w' 3 0 s u
 fresh:∀ (id:Nat) (hd:Hd) (b:Nat),bo id=some hd->b∈hd.bs->w.heap.size<=b
structure B1 (P:Program)(f:FuncId)(C:List SV->Option Con):Prop where
 enter:∀ l c,C l=some c->∀ (args:Array Value) (w:World),(callFunc f args).run P w=.ok (.enter f args) w
 calls:∀ l c,C l=some c->an c->∀ (F:Nat->Prop) (w:World) (vs:Array Value),(∀ b,F b->b<w.heap.size)->api F dB w l vs->
  Calls P f vs w (λe w'=>(∃ s u bo,dW c s/\e=.returned u/\Handed F w bo w' s u/\Below w.heap.size w w')\/(∃ x,kY c x/\e=.panicked [{ v:=x,recovered:=false}]/\Below w.heap.size w w'))
def Jw (F:Nat->Prop)(w:World)(own:Own)(n:Nat)(e:Ending)(bo:Own)(w':World):Rs->Prop
 | .ret s h=>(∃ u,e=.returned u/\Rel F bo w' s u)/\Hp F bo w' h/\Fr { w:=w,own:=own} bo w'/\n<=h.length| .pan x h=>e=.panicked [{ v:=x,recovered:=false}]/\Hp F bo w' h/\Fr { w:=w,own:=own} bo w'/\n<=h.length
structure ao2 (P:Program)(f:FuncId)(C:List SV->List Ob->Option ao3):Prop where
 enter:∀ l h c,C l h=some c->∀ (args:Array Value) (w:World),(callFunc f args).run P w=.ok (.enter f args) w
 calls:∀ l h c,C l h=some c->c.pre->∀ (F:Nat->Prop) (own:Own) (w:World) (vs:Array Value),Hp F own w h->api F own w l vs->
  Calls P f vs w (λe w'=>∃ r bo,c.post r/\Jw F w own h.length e bo w' (c.res r))
abbrev rd (r:Option Nat):Fence:= { fn:=λ_=>True,depth:=none,alive:=false,round:=r}
def aax (P:Program)(v:Value)(vs:Array Value)(w:World)(R:Ending->World->Prop):Prop:=
 (∃ f args,(Sg v vs).run P w=.ok (.enter f args) w/\Calls P f args w R)\/(∃ l f tmps as bd,(Sg v vs).run P w=.ok (.round l f tmps as bd) w/\RoundIn (rd none) 0 P l f tmps as bd w R)
structure YFr (bs bs':List Nat)(w w':World):Prop where
 os:w'.os=w.os
 tape:w'.tape=w.tape
 output:w'.output=w.output
 size:w.heap.size<=w'.heap.size
 block:∀ b,b<w.heap.size->b ∉ bs->w'.heap[b]? =w.heap[b]?
 bs:∀ b∈bs',b<w'.heap.size/\(b∈bs\/w.heap.size<=b)
def YOk (P:Program)(C:List SV->Res->Option ap_):Prop:=
 ∀ l r c,C l r=some c->c.pre->∀ (F:Nat->Prop) (bs:List Nat) (w:World) (vs:Array Value),r.R F bs w->(∀ b,F b->b<w.heap.size)->(∀ b∈bs,b<w.heap.size/\¬F b)->api (λb=>F b\/b∈bs) dB w l vs->
  aax P r.yv vs w (λe w'=>∃ a bs',c.post a/\e=.returned (.bool (c.res a).1)/\(c.res a).2.R F bs' w'/\(c.res a).2.yv=r.yv/\YFr bs bs' w w')
structure aoI (P:Program)(G:Cons):Prop where
 p:∀ f,B1 P f (G.p f)
 o:∀ f,ao2 P f (G.o f)
 y:YOk P G.y
variable {r:Option Nat}{n:Nat}{f:FuncId}{R:Ending->World->Prop}
def ov{P:Program}{vs:Array Value}{w:World}(h:Calls P f vs w R):CallsIn (rd r) n P f vs w R:=(callsIn_wide (n:=n)).2 h
def sA{P:Program}{vs:Array Value}{w:World}(h:CallsIn (rd none) n P f vs w R):Calls P f vs w R:=(callsIn_wide (n:=n)).1 h
theorem LD{P:Program}{l:Nat}{tmps:Array Value}{E O:Code}{w:World}(h:RoundIn (rd none) 0 P l f tmps E O w R):RoundIn (rd r) n P l f tmps E O w R:=
 ⟨trivial,λc cs U=>h.2 c cs (by simp[Fence.room])⟩
variable {k:Tag}{x:k.T}{j:Nat}
theorem Jx(E:aoX k=0){s:SV}(h:(cellsOf k x)[j]? =some s):∃ y,s=.v y:=by
 grind [wz]
theorem H5(U:aoX k=0){v:Value}(h:Rel F own w (svT k x) v):Rel F' bo w' (svT k x) v:=by
 unfold svT at h |-;cases O:oi k with
 |true=>
  rw[O]at h;simp only[cond_true]at h |-;obtain⟨vs,rfl,h1⟩:=tE h;exact .agg h1.1 λj s E=>by
   obtain⟨y,rfl⟩:=Jx U E;have:=cK (h1.2 j _ E);rw[this];exact .v y
 |false=>
  rw[O]at h;simp only[cond_false,gH]at h |-;cases hc:(cellsOf k x)[0]? with
  |none=>exact .any _
  |some s=>
   rw[hc]at h;obtain⟨y,rfl⟩:=Jx U hc;have:=cK h;rw[this];exact .v y
variable {l:List k.T}
theorem apm.ao_{o:Nat}{cs:Array Value}(h:apm F own w k l o cs)(hc:(∀ b,¬df F own b->¬df F' bo b)\/aoX k=0):apm F' bo w k l o cs:=λi x hi j s E=>by
 obtain⟨u,h1,h2⟩:=h i x hi j s E;refine⟨u,h1,?_⟩;rcases hc with hc|hk;exact h2.ao_ (sw E) hc;obtain⟨y,rfl⟩:=Jx hk E;have:=cK h2;rw[this];exact .v y
theorem ao8.ao_{v:Value}{bs:List Nat}(h:ao8 F own w k l v bs)(hc:(∀ b,¬df F own b->¬df F' bo b)\/aoX k=0):ao8 F' bo w k l v bs:=by
 rcases h with h| ⟨b,o,cap,cs,ty,h1,h2,U,W,E,V,O⟩;exact .inl h;exact .inr ⟨b,o,cap,cs,ty,h1,h2,U,W,E,V,O.ao_ hc⟩
theorem apb.ao_(hc:(∀ b,¬df F own b->¬df F' bo b)\/aoX k=0):∀ {l:List (List k.T)} {vs:List Value} {bs:List Nat},apb F own w k l vs bs->apb F' bo w k l vs bs
 | [],[],bs,h=>h|l::W,v::vs,bs,⟨V,U,h1,E,h2,O⟩ =>⟨V,U,h1,E,h2.ao_ hc,O.ao_ hc⟩| [],_::_,_,h=>h.elim|_::_,[],_,h=>h.elim
def Plain (o:Ob):Prop:=(∃ (k:Tag) (l:List k.T),o=.row k l)\/(∃ (k k2:Tag) (l:List (k.T×k2.T)),o=.mp k k2 l none)\/∃ (k:Tag) (l:List (List k.T)),o=.apg k l
def aay (o:Ob):Prop:=match o with
 | .row k _=>aoX k=0| .mp k k2 _ _=>aoX k=0/\aoX k2=0| .apg k _=>aoX k=0|_=>False
theorem aps.ao_ {hd:Hd}{o:Ob}(ho:Plain o)(h:aps F own w hd o)(hc:(∀ b,¬df F own b->¬df F' bo b)\/aay o):aps F' bo w hd o:=by
 rcases ho with⟨k,l,rfl⟩ | ⟨k,k2,l,rfl⟩ | ⟨k,l,rfl⟩;exact ao8.ao_ h hc;obtain⟨b,es,V,h1,h2,U,E,O,X⟩:=h;refine⟨b,es,V,h1,h2,U,⟨E.1,λi x hi=>?_⟩,O,trivial⟩;obtain⟨e,e1,e2,Y,W⟩:=E.2 i x hi;refine⟨e,e1,e2,?_,?_⟩;rcases hc with hc|hk;exact Y.ao_ (tV _ _) hc;exact H5 hk.1 Y;rcases hc with hc|hk;exact W.ao_ (tV _ _) hc;exact H5 hk.2 W;rcases h with h| ⟨b,o,cap,cs,ty,bs,h1,h2,U,E,O,X,h7,h8,h9⟩;exact .inl h;exact .inr ⟨b,o,cap,cs,ty,bs,h1,h2,U,E,O,X,h7,h8,h9.ao_ hc⟩
theorem yV:∀ (n:Nat) (s:SV) (o:Ob),o∈aV n s->Plain o/\(jm n s=true->aay o):=by
 intro n;induction n with
 |zero=>
  intro s o h;cases s <;>simp[aV]at h <;>subst h;exact⟨.inl ⟨_,_,rfl⟩,λE=>alu E⟩;exact⟨.inr (.inl ⟨_,_,_,rfl⟩),λE=>by simp only[jm,alt]at E;exact⟨alu E.1,alu E.2⟩⟩;exact⟨.inr (.inr ⟨_,_,rfl⟩),λE=>alu E⟩
 |succ n O=>
  intro s o h;cases s with
  |nw k l=>simp[aV]at h;subst h;exact⟨.inl ⟨_,_,rfl⟩,λE=>alu E⟩
  |nm k k2 l=>simp[aV]at h;subst h;exact⟨.inr (.inl ⟨_,_,_,rfl⟩),λE=>by simp only[jm,alt]at E;exact⟨alu E.1,alu E.2⟩⟩
  |ng k l=>simp[aV]at h;subst h;exact⟨.inr (.inr ⟨_,_,rfl⟩),λE=>alu E⟩
  |agg l=>
   grind [aV,jm]
  |tup l=>
   grind [aV,jm]
  |_=>simp[aV]at h
variable {h:List Ob}
theorem LF{id:Nat}(hd:dI (aq h id)=false):aq h id∈h:=by
 grind [uY,dI]
theorem rY {α:Type}:∀ {l:List α} {i j:Nat} {x:α},l.Nodup->l[i]? =some x->l[j]? =some x->i=j
 | [],i,j,x,_,h,_=>by simp at h
 |a::r,0,0,x,_,_,_=>rfl
 |a::r,0,j+1,x,hn,h1,h2=>by
  grind
 |a::r,i+1,0,x,hn,h1,h2=>by
  grind
 |a::r,i+1,j+1,x,hn,h1,h2=>by
  simp at h1 h2;rw[al6]at hn;rw[rY hn.2 h1 h2]
theorem H6(hp:Hp F own w h){s:SV}{u:Value}{F1:Nat->Prop}(hF1:(∀ b,F1 b↔df F own b)\/((∀ b,F1 b↔F b)/\jm 3 s=true))(hb:Below w.heap.size w w')(X:Handed F1 w bo w' s u):
  ∃ P1,Hp F P1 w' (h++aV 3 s)/\Fr { w:=w,own:=own} P1 w'/\Rel F P1 w' (jn 3 h.length s) u/\∀ id,id<h.length->P1 id=own id:=by
 have hFF:∀ b,F b->F1 b:=λb hf=>by
  rcases hF1 with h1| ⟨h1,_⟩;exact(h1 b).2 (.inl hf);exact(h1 b).2 hf
 let P1:Own:=λid=>if id<h.length then own id else bo (id - h.length)
 have o1:∀ id hd,P1 id=some hd->(id<h.length/\own id=some hd)\/(h.length<=id/\bo (id - h.length)=some hd):=λid hd e=>by
  simp only[P1]at e;split at e
  rename_i hlt;exact .inl ⟨hlt,e⟩;rename_i hlt;exact .inr ⟨by omega,e⟩
 have o2:∀ id hd,own id=some hd->P1 id=some hd:=λid hd e=>by
  simp only[P1];rw[if_pos (hp.dom id hd e)];exact e
 have o3:∀ id hd,bo id=some hd->P1 (id+h.length)=some hd:=λid hd e=>by
  simp only[P1];rw[if_neg (by omega),anY];exact e
 have fr:Fr { w:=w,own:=own} P1 w':=Fr.apM (λid hd e=>⟨hd,o2 id hd e,.refl _⟩) (λid hd b e E=>by
   rcases o1 id hd e with⟨_,e⟩ | ⟨_,e⟩;exact .inl ⟨id,hd,e,E⟩;exact .inr (X.fresh _ hd b e E)) (λb hbl _=>hb.block b hbl) hb.size hb.os hb.tape hb.output
 have g:apx F own w P1 w':=fr.apD;have V:(∀ b,¬df F1 bo b->¬df F P1 b)\/jm 3 s=true:=by
  rcases hF1 with h1| ⟨_,h2⟩;left;rintro b hn (hf| ⟨id,hd,e,E⟩);exact hn (.inl (hFF b hf));rcases o1 id hd e with⟨_,e⟩ | ⟨_,e⟩;exact hn (.inl ((h1 b).2 (.inr ⟨id,hd,e,E⟩)));exact hn (.inr ⟨_,hd,e,E⟩);exact .inr h2
 refine⟨P1,⟨λid hd e=>?_,λb hf=>alG (hp.aoY b hf) hb.size,λid hd b e E=>?_,λi j hi hj b U W hb1 Y=>?_,λid hd b e E=>?_,λid O=>?_⟩,fr,?_,λid hlt=>by simp only[P1];rw[if_pos hlt]⟩;rcases o1 id hd e with⟨hlt,_⟩ | ⟨hge,e⟩;rw[alA];omega;have:=X.hp.dom _ hd e;rw[alA];omega;rcases o1 id hd e with⟨_,e⟩ | ⟨_,e⟩;exact hp.apart id hd b e E;exact λhf=>X.hp.apart _ hd b e E (hFF b hf);rcases o1 i hi U with⟨l1,U⟩ | ⟨l1,U⟩ <;>rcases o1 j hj W with⟨l2,W⟩ | ⟨l2,W⟩;exact hp.inj i j hi hj b U W hb1 Y;have:=hp.lt i hi b U hb1;have:=X.fresh _ hj b W Y;omega;have:=hp.lt j hj b W Y;have:=X.fresh _ hi b U hb1;omega;have:=X.hp.inj _ _ hi hj b U W hb1 Y;omega;rcases o1 id hd e with⟨_,e⟩ | ⟨_,e⟩;exact alG (hp.lt id hd b e E) hb.size;exact X.hp.lt _ hd b e E;rw[sq]at O |-;by_cases hlt:id<h.length
 rw[if_pos hlt]at O |-;obtain⟨hd,U,W⟩:=hp.obs id O;exact⟨hd,o2 id hd U,W.carry g.apz hb.size λb E=>hb.block b (hp.lt id hd b U E)⟩;rw[if_neg hlt]at O |-;obtain⟨hd,U,W⟩:=X.hp.obs _ O;obtain⟨q1,q2⟩:=yV 3 s _ (LF O);have e3:=o3 _ hd U;rw[Nat.sub_add_cancel (by omega)]at e3;exact⟨hd,e3,W.ao_ q1 (V.imp (λh=>h) q2)⟩;have:=Ef (F':=F) (P1:=P1) (m:=h.length) o3 3 0 s u X.val (V.imp (λhk c hc=>hk c λho=>hc (.inl ho)) id)
 rwa[alF]at this
variable {G:Cons}
theorem Jy(hG:aoI P G)(O:Hp F own w h){args:List SV}{vs:Array Value}(X:api F own w args vs){c:Con}(hc:G.p f (args.map (gw h 6))=some c)(E:an c)
  (W:args.all (dA 3)=true\/∀ s,dW c s->jm 3 s=true):
  (callFunc f vs).run P w=.ok (.enter f vs) w/\Calls P f vs w (λe w'=>(∃ s u P1,dW c s/\e=.returned u/\Hp F P1 w' (h++aV 3 s)/\Fr { w:=w,own:=own} P1 w'/\Rel F P1 w' (jn 3 h.length s) u/\Below w.heap.size w w'/\∀ id,id<h.length->P1 id=own id)\/(∃ x,kY c x/\e=.panicked [{ v:=x,recovered:=false}]/\Below w.heap.size w w')):=by
 refine⟨(hG.p f).enter _ c hc vs w,?_⟩;rcases W with U|hsc;have hpf:∀ (j:Nat) (s:SV),args[j]? =some s->PF s:=λj s V=>by
  rw[al0]at U;exact gT 3 s (U s (alH V))
 refine((hG.p f).calls _ c hc E (df F own) w vs (λb hb=>?_) ⟨by simpa using X.1,λj s V=>?_⟩).mono ?_;rcases hb with hf| ⟨id,hd,e,hbb⟩;exact O.aoY b hf;exact O.lt id hd b e hbb;obtain⟨x,Y,rfl⟩:=ou V;exact Uf 6 x _ (hpf j x Y) (X.2 j x Y);rintro e w' (⟨s,u,bo,h1,h2,h3,h4⟩ |hp');obtain⟨P1,q1,q2,q3,q4⟩:=H6 O (.inl λb=>aoO) h4 h3;grind
 grind
 refine((hG.p f).calls _ c hc E F w vs O.aoY ⟨by simpa using X.1,λj s V=>?_⟩).mono ?_;obtain⟨x,Y,rfl⟩:=ou V;exact zN O 6 x _ (X.2 j x Y);rintro e w' (⟨s,u,bo,h1,h2,h3,h4⟩ |hp');obtain⟨P1,q1,q2,q3,q4⟩:=H6 O (.inr ⟨λb=>aoO,hsc s h1⟩) h4 h3;grind
 grind
theorem py:∀ (ids:List Nat) (id k:Nat),yM id ids=some k->ids[k]? =some id
 | [],id,k,h=>by simp[yM]at h
 |a::r,id,k,h=>by
  simp only[yM]at h;cases O:Nat.beq a id with
  |true=>simp_all <;>grind
  |false=>
   rw[O]at h;simp only[cond_false]at h;cases E:yM id r with
   |none=>grind|some j=>rw[E]at h;simp at h;subst h;simpa using py r id j E
theorem wG (n:Nat):∀ l:List Nat,CH n l=true↔n∈l
 | [] =>by simp[CH]
 |m::r=>by
  simp only[CH];cases E:Nat.beq m n with
  |true=>simp_all
  |false=>
   have:m≠n:=λe=>by simp_all
   simp only[cond_false,wG n r,alD];grind
theorem qF (h:List Ob):∀ (n:Nat) (O E:List Nat),E.Nodup->(reach h n O E).Nodup
 |0,_,E,hn=>hn|n+1,[],E,hn=>hn
 |n+1,id::O,E,hn=>by
  simp only[reach];cases W:CH id E with
  |true=>exact qF h n _ _ hn
  |false=>
   refine qF h n _ _ ?_;rw[amP];refine⟨hn,by simp,λa V b U=>?_⟩;simp at U;subst U;rintro rfl;have:=(wG a E).2 V;grind
structure Rn (m:Nat->Option Nat)(own bo:Own):Prop where
 ids:∀ i j hd,m i=some j->own i=some hd->∃ hd',bo j=some hd'/\hd.like hd'
variable {m:Nat->Option Nat}
theorem Dl(hm:Rn m own bo)(ho:∀ b,¬df F own b->¬df F' bo b):∀ (n:Nat) (s:SV) (v:Value),Rel F own w s v->Rel F' bo w (ren m n s) v:=by
 have base:∀ (n:Nat) (s:SV) (v:Value),Rel F own w s v->(∀ l o,s≠ .ep l o)->(∀ z l,s≠ .ls z l)->(∀ l,s≠ .agg l)->(∀ l,s≠ .tup l)->(∀ f l m,s≠ .fn f l m)->Rel F' bo w (ren m n s) v:=by
  intro n s v V n1 n2 n3 n4 n5;have E:∀ {id:Nat} {hd:Hd} {f:Nat->SV} {v:Value},own id=some hd->(∀ j hd',bo j=some hd'->hd.like hd'->Rel F' bo w (f j) v)->Rel F' bo w (zx f (m id)) v:=by
   intro id hd f v h1 h2;cases hm':m id with
   |none=>exact .any _
   |some j=>
    obtain⟨hd',O,U⟩:=hm.ids id j hd hm' h1;exact h2 j hd' O U
  cases V with
  |any=>cases n <;>exact .any _|v x=>cases n <;>exact .v _
  |ptr h1 h2=>cases n <;>exact E h1 λj hd' O U=>.ptr O (U.1.trans h2)
  |os h1 h2=>cases n <;>exact E h1 λj hd' O U=>by rw[<-U.2.1]at h2 |-;exact .os O h2
  |e0=>cases n <;>exact .e0|rc W=>cases n <;>exact .rc (W.ao_ .rs ho)
  |rp h1 h2 X=>cases n <;>exact E h1 λj hd' O U=>.rp O (U.2.1.trans h2) X
  |gr h1 h2 X=>cases n <;>exact E h1 λj hd' O U=>.gr O (by rw[U.2.2];exact h2) X
  |vw h1 h2 X=>cases n <;>exact E h1 λj hd' O U=>.vw O (by rw[U.2.1];exact h2) X
  |gp h1 h2 X=>cases n <;>exact E h1 λj hd' O U=>.gp O (by rw[U.2.2];exact h2) X
  |ep=>grind|rs c W h0' h1 h2=>cases n <;>exact Rel.ao_ (.rs c W h0' h1 h2) .rs ho|rs0=>cases n <;>exact .rs0|ls=>grind|rm ck cv es clock W h1 h2 X h4 h5=>cases n <;>exact Rel.ao_ (.rm ck cv es clock W h1 h2 X h4 h5) .rm ho|rm0=>cases n <;>exact .rm0|agg=>grind|tup=>grind|fn=>grind
 intro n;induction n with
 |zero=>
  intro s v V;cases s <;>first|exact .any _|(refine base 0 _ _ V ?_ ?_ ?_ ?_ ?_ <;>intros <;>(intro e;cases e)) |cases V
 |succ n ih=>
  intro s v V;cases s with
  |ep l o=>
   cases V with
   |ep c h1 h2=>
    simp only[ren];exact .ep c (λj s Y=>by grind) (λj s Y=>by grind)
  |ls z l=>
   cases V with
   |ls c hz W h1 h2=>
    simp only[ren];have:=Rel.ls (F:=F') (own:=bo) (w:=w) (z:=z) (l:=l.map (ren m n)) c (by simpa using hz) W (λj s Y=>by obtain⟨x,hx,rfl⟩:=ou Y;exact⟨ho _ (h1 j x hx).1,(h1 j x hx).2⟩) (λj s Y=>by grind);grind
  |agg l=>cases V with|agg W h1=>simp only[ren];exact .agg (by grind) λj s Y=>by grind
  |tup l=>cases V with|tup W h1=>simp only[ren];exact .tup (by grind) λj s Y=>by grind
  |fn f l l2=>cases V with|fn W h0' h1 h2=>simp only[ren];exact .fn (by grind) (by grind) (λj s Y=>by grind) λj s Y=>by grind
  |_=>first|(refine base (n+1) _ _ V ?_ ?_ ?_ ?_ ?_ <;>intros <;>(intro e;cases e)) |cases V
theorem Eh(hm:Rn m own bo)(ho:∀ b,¬df F own b->¬df F' bo b)(ho2:∀ b,b<w.heap.size->df F' bo b->df F own b){hd:Hd}{o:Ob}(h:aps F own w hd o):aps F' bo w hd (uV m o):=by
 cases o with
 |cells l=>obtain⟨b,cs,ty,h1,h2,U,h4,h5⟩:=h;exact⟨b,cs,ty,h1,h2,U,by grind,λj s V=>by grind [Dl]⟩
 |dead=>trivial|row k l=>exact ao8.ao_ h (.inl ho)
 |mp kk vk l apJ=>
  obtain⟨b,es,X,h1,h2,U,h4,h5,h6⟩:=h;have E:apP F' bo w kk vk (eD kk vk l apJ) es:=⟨h4.1,λi x hi=>by
   obtain⟨e,W,Y,e3,e4⟩:=h4.2 i x hi;exact⟨e,W,Y,e3.ao_ (tV _ _) ho,e4.ao_ (tV _ _) ho⟩⟩
  match apJ,E,h6 with
  |none,E,_=>exact⟨b,es,X,h1,h2,U,E,h5,trivial⟩
  |some (i,none),E,h6=>
   show aps F' bo w hd (NI kk vk l none (m i));cases hmi:m i with
   |none=>exact⟨b,es,X,h1,h2,U,E,h5,trivial⟩
   |some k=>
    obtain⟨O,t1,t2⟩:=h6;obtain⟨hd3,W,Y⟩:=hm.ids i k O hmi t1;exact⟨b,es,X,h1,h2,U,E,h5,hd3,W,Y.2.2.trans t2⟩
  |some (i,some x),E,h6=>
   show aps F' bo w hd (NI kk vk l (some x) (m i));cases hmi:m i with
   |none=>exact λj V=>by cases V
   |some k=>
    obtain⟨O,e,t1,t2,t3⟩:=h6;obtain⟨hd3,W,Y⟩:=hm.ids i k O hmi t1;exact⟨b,es,X,h1,h2,U,E,h5,hd3,e,W,t2,Y.2.1.trans t3⟩
 |apg k l=>
  rcases h with h| ⟨b,o,cap,cs,ty,bs,h1,h2,U,h4,h5,h6,h7,h8,h9⟩;exact .inl h;exact .inr ⟨b,o,cap,cs,ty,bs,h1,h2,U,h4,h5,h6,h7,h8,h9.ao_ (.inl ho)⟩
 |ab r=>
  refine⟨h.1,r.loc _ _ _ w w h.2 (alw _) (λb hbl hn=>rfl) (λb hbl hn=>⟨ho2 b hbl hn.1,hn.2⟩)⟩
 |raw o=>exact h
 |mi mid n left cur=>
  obtain⟨b,h1,h2,U⟩:=h;refine⟨b,h1,h2,λj V=>?_⟩;cases mid with
  |none=>cases V
  |some i=>
   obtain⟨hdm,bm,seen,c0,ss,k1,k2,k3,k4⟩:=U i rfl;obtain⟨hd',W,Y⟩:=hm.ids i j hdm V k1;exact⟨hd',bm,seen,c0,ss,W,Y.2.1.trans k2,k3,k4⟩
 |fwd n=>
  cases n with
  |none=>intro j V;cases V
  |some i=>
   intro j V;obtain⟨O,k1,k2,k3⟩:=h i rfl;obtain⟨hd',W,Y⟩:=hm.ids i j O V k1;exact⟨hd',W,Y.2.1.trans k2,k3⟩
 |fz k l=>exact Rel.ao_ h .rs ho
theorem u7 (m:Nat->Option Nat)(o:Ob):dI (uV m o)=dI o:=by
 cases o with
 |mp kk E l p=>
  match p with
  |none=>rfl
  |some (i,q) =>
   show dI (NI kk E l q (m i))=false;cases q <;>cases m i <;>rfl
 |_=>rfl
theorem Yc(X:Hp F own w h)(ids:List Nat)(hn:ids.Nodup):
  ∃ (Fm:Nat->Prop) (O:Own),Hp Fm O w (rF h ids)/\(∀ b,df Fm O b↔df F own b)/\Rn (inN ids) own O/\(∀ b,Fm b↔(F b\/∃ id hd,id ∉ ids/\own id=some hd/\b∈hd.bs))/\(∀ k id,ids[k]? =some id->O k=own id)/\(∀ k,ids.length<=k->O k=none):=by
 let O:Own:=λk=>match ids[k]? with|some id=>own id|none=>none
 let Fm:Nat->Prop:=λb=>F b\/∃ id hd,id ∉ ids/\own id=some hd/\b∈hd.bs
 have o1:∀ k id,ids[k]? =some id->O k=own id:=λk id e=>by grind
 have o2:∀ k,ids.length<=k->O k=none:=λk e=>by grind
 have o3:∀ k hd,O k=some hd->∃ id,ids[k]? =some id/\own id=some hd:=λk hd e=>by
  grind
 have inj:∀ i j id,ids[i]? =some id->ids[j]? =some id->i=j:=λi j id e1 U=>rY hn e1 U;have hB:∀ b,df Fm O b↔df F own b:=λb=>by
  constructor
  rintro ((W| ⟨id,hd,_,e,E⟩) | ⟨k,hd,e,E⟩);exact .inl W;exact .inr ⟨id,hd,e,E⟩;obtain⟨id,_,U⟩:=o3 k hd e;exact .inr ⟨id,hd,U,E⟩;rintro (W| ⟨id,hd,e,E⟩);exact .inl (.inl W);by_cases hm:id∈ids
  obtain⟨k,hk⟩:=ame hm;exact .inr ⟨k,hd,by grind,E⟩;exact .inl (.inr ⟨id,hd,hm,e,E⟩)
 have rn:Rn (inN ids) own O:=⟨λi j hd hm e=>⟨hd,by rw[o1 j i (py ids i j hm)];exact e,.refl _⟩⟩;refine⟨Fm,O,⟨λk hd e=>?_,λb W=>?_,λk hd b e E=>?_,λi j hi hj b e1 U hb1 V=>?_,λk hd b e E=>?_,λk Y=>?_⟩,hB,rn,λb=>aoO,o1,o2⟩;grind [rF]
 rcases W with W| ⟨id,hd,_,e,E⟩;exact X.aoY b W;exact X.lt id hd b e E;obtain⟨id,e1,U⟩:=o3 k hd e;rintro (W| ⟨id',hd',hn',e',hbb'⟩);exact X.apart id hd b U E W;exact hn' (X.inj id' id hd' hd b e' U hbb' E▸alH e1);obtain⟨id1,q1,q2⟩:=o3 i hi e1;obtain⟨id2,q3,q4⟩:=o3 j hj U;have:=X.inj id1 id2 hi hj b q2 q4 hb1 V;grind
 obtain⟨id,e1,U⟩:=o3 k hd e;exact X.lt id hd b U E;have hk:∃ id,ids[k]? =some id/\aq (rF h ids) k=uV (inN ids) (aq h id):=by
  grind [uY,rF,dI]
 obtain⟨id,hid,ho⟩:=hk;rw[ho]at Y |-;rw[u7]at Y;obtain⟨hd,e1,U⟩:=X.obs id Y;exact⟨hd,by grind,Eh rn (λb hb V=>hb ((hB b).1 V)) (λb _ V=>(hB b).1 V) U⟩
theorem qG {ids:List Nat}{b k:Nat}(E:k<ids.length):ids[k]? =some (j9 ids b k):=by
 grind [j9,gH]
theorem ut {ids:List Nat}{b k:Nat}(E:ids.length<=k):j9 ids b k=b+(k - ids.length):=by
 grind [j9,gH]
theorem Uh (ids:List Nat)(b k:Nat):rB ids b k=some (j9 ids b k):=by
 grind [rB,j9]
theorem Sh{ids:List Nat}(V:ids.Nodup){b:Nat}(O:∀ id∈ids,id<b){i:Nat}(h:j9 ids b i=j9 ids b j):i=j:=by
 rcases amz i ids.length with hi|hi <;>rcases amz j ids.length with hj|hj;have E:=qG (b:=b) hi;have U:=qG (b:=b) hj;grind [rY]
 have E:=O _ (alH (qG (b:=b) hi));grind [ut];have E:=O _ (alH (qG (b:=b) hj));grind [ut];grind [ut]
theorem Ei {ids:List Nat}(hn:ids.Nodup){b:Nat}(hb:∀ id∈ids,id<b):∀ (E:List Ob) (h:List Ob) (k:Nat),b<=h.length->(ids.length<=k->h.length=b+(k - ids.length))->(k<ids.length->h.length=b)->
  (∀ i,k<=i->i<k+E.length->aq (mJ ids b h k E) (j9 ids b i)=uV (rB ids b) (aq E (i - k)))/\
  (∀ id,(∀ i,k<=i->i<k+E.length->j9 ids b i≠id)->aq (mJ ids b h k E) id=aq h id)/\h.length<=(mJ ids b h k E).length/\(∀ i,k<=i->i<k+E.length->j9 ids b i< (mJ ids b h k E).length)
 | [],h,k,_,_,_=>⟨λi h1 h2=>by grind,λid _=>rfl,alw _,λi h1 h2=>by grind⟩
 |o::r,h,k,Y,hge,hlt=>by
  simp only[mJ];have hstep:(cF h (j9 ids b k) (uV (rB ids b) o)).length=(if k<ids.length then h.length else h.length+1)/\j9 ids b k< (cF h (j9 ids b k) (uV (rB ids b) o)).length:=by
   rcases amz k ids.length with hk|hk;have:=hb _ (alH (qG (b:=b) hk));simp_all [cB];simp_all [cB,ut]
  have O:b<=(cF h (j9 ids b k) (uV (rB ids b) o)).length:=by grind
  obtain⟨q1,X,q3,q4⟩:=Ei hn hb r (cF h (j9 ids b k) (uV (rB ids b) o)) (k+1) O (λhk=>by
    grind) (λhk=>by grind)
  have W:∀ i,k+1<=i->j9 ids b i≠j9 ids b k:=λi hi e=>by grind [Sh]
  refine⟨λi h1 h2=>?_,λid U=>?_,alQ (by grind) q3,λi h1 h2=>?_⟩;by_cases V:i=k
  subst V;rw[X _ (λj hj _=>W j hj),dF,if_pos rfl,anr];rfl;rw[q1 i (by omega) (by grind),show i - k=(i - (k+1))+1 by omega];rfl;rw[X id (λi h1 h2=>U i (by omega) (by simp;omega)),dF,if_neg (U k (alw _) (by simp))];grind
theorem H7(hp:Hp F own w h){ids:List Nat}(hn:ids.Nodup)(aqb:∀ id∈ids,id<h.length){Fm:Nat->Prop}{om O:Own}(hpm:Hp Fm om w (rF h ids))(hB:∀ b,df Fm om b↔df F own b)(W:∀ b,Fm b↔(F b\/∃ id hd,id ∉ ids/\own id=some hd/\b∈hd.bs))(ho1:∀ k id,ids[k]? =some id->om k=own id)
  {h':List Ob} (V:Hp Fm O w' h') (fr:Fr { w:=w,own:=om} O w') (hlen:ids.length<=h'.length):
  ∃ P1,Hp F P1 w' (mJ ids h.length h 0 h')/\Fr { w:=w,own:=own} P1 w'/\∀ s v,Rel Fm O w' s v->Rel F P1 w' (ren (rB ids h.length) 3 s) v:=by
 let L:=h.length
 let P1:Own:=λid=>match yM id ids with|some k=>O k|none=>if L<=id then O (ids.length+(id - L))else own id
 have posN_of:∀ k id,ids[k]? =some id->yM id ids=some k:=by
  intro k id e;cases hpn:yM id ids with
  |none=>
   exfalso;have:∀ (l:List Nat),id∈l->yM id l≠none:=by
    intro l;induction l with
    |nil=>grind
    |cons a r ih=>
     intro hm;simp only[yM];cases hb:Nat.beq a id with
     |true=>simp
     |false=>
      simp only[cond_false];have:id∈r:=by
       rcases alD.1 hm with e|e <;>simp_all
      simp_all
   grind
  |some j=>
   have X:=py ids id j hpn;rw[rY hn e X]
 have b1:∀ k,P1 (j9 ids L k)=O k:=by
  intro k;rcases amz k ids.length with hk|hk;have:=posN_of k _ (qG (b:=L) hk);grind
  have hge:=ut (b:=L) hk;have hnone:yM (j9 ids L k) ids=none:=by
   cases hpn:yM (j9 ids L k) ids with
   |none=>rfl
   |some j=>
    have:=aqb _ (alH (py ids _ j hpn));omega
  grind
 have b2:∀ id hd,P1 id=some hd->(∃ k,id=j9 ids L k/\O k=some hd)\/(id ∉ ids/\id<L/\own id=some hd):=by
  grind [py,qG,ut,List.getElem?_of_mem]
 have b3:∀ id hd,id ∉ ids->own id=some hd->P1 id=some hd:=by
  intro id hd hm e;have hlt:=hp.dom id hd e;grind [py]
 have hold:∀ b,b<w.heap.size->(¬ ∃ k hd,om k=some hd/\b∈hd.bs)->w'.heap[b]? =w.heap[b]?:=λb hb hn=>fr.block b ⟨hb,hn⟩;have omB:∀ k hd b,om k=some hd->b∈hd.bs->∃ id hd',own id=some hd'/\b∈hd'.bs:=λk hd b e E=>by
  rcases(hB b).1 (.inr ⟨k,hd,e,E⟩)with hf|ho;exact absurd ((W b).2 (.inl hf)) (hpm.apart k hd b e E);exact ho
 have fr2:Fr { w:=w,own:=own} P1 w':=by
  refine Fr.apM (λid hd e=>?_) (λid hd b e E=>?_) (λb hb U=>hold b hb λ⟨k,hd,e,E⟩ =>U (omB k hd b e E)) fr.size fr.os fr.tape fr.output;by_cases hm:id∈ids
  obtain⟨k,hk⟩:=ame hm;obtain⟨hd',Y,X⟩:=fr.ids k hd (by grind);grind
  exact⟨hd,b3 id hd hm e,.refl _⟩;rcases b2 id hd e with⟨k,hk,e⟩ | ⟨_,_,e⟩;rcases amz b w.heap.size with hlt|hge;left;have U:=fr.base k hd b e E;have:∃ k2 hd2,om k2=some hd2/\b∈hd2.bs:=al2 λhc=>U ⟨hlt,hc⟩;grind
  omega;grind
 have rn:Rn (rB ids L) O P1:=⟨λi j hd hm e=>⟨hd,by
  grind [Uh],.refl _⟩⟩
 have k1:∀ b,¬df Fm O b->¬df F P1 b:=by
  rintro b U (hf| ⟨id,hd,e,E⟩);exact U (.inl ((W b).2 (.inl hf)));rcases b2 id hd e with⟨k,_,e⟩ | ⟨hm,_,e⟩;exact U (.inr ⟨k,hd,e,E⟩);exact U (.inl ((W b).2 (.inr ⟨id,hd,hm,e,E⟩)))
 have k2:∀ b,df F P1 b->df Fm O b:=by
  grind
 obtain⟨q1,q2,q3,q4⟩:=Ei hn aqb h' h 0 (alw _) (λhk=>by
   omega) (λ_=>rfl)
 refine⟨P1,⟨λid hd e=>?_,λb hf=>alG (hp.aoY b hf) fr.size,λid hd b e E=>?_,λi j hi hj b Y X hb1 hb2=>?_,λid hd b e E=>?_,λid hdd=>?_⟩,fr2,λs v hr=>Dl rn k1 3 s v hr⟩;rcases b2 id hd e with⟨k,hk,e⟩ | ⟨_,hlt,_⟩;rw[hk];exact q4 k (al4 _) (by have:=V.dom k hd e;omega);omega;rcases b2 id hd e with⟨k,_,e⟩ | ⟨_,_,e⟩;exact λhf=>V.apart k hd b e E ((W b).2 (.inl hf));exact hp.apart id hd b e E;rcases b2 i hi Y with⟨ki,hki,Y⟩ | ⟨m1,_,Y⟩ <;>rcases b2 j hj X with⟨kj,hkj,X⟩ | ⟨m2,_,X⟩;rw[hki,hkj,V.inj ki kj hi hj b Y X hb1 hb2];exact absurd ((W b).2 (.inr ⟨j,hj,m2,X,hb2⟩)) (V.apart ki hi b Y hb1);exact absurd ((W b).2 (.inr ⟨i,hi,m1,Y,hb1⟩)) (V.apart kj hj b X hb2);exact hp.inj i j hi hj b Y X hb1 hb2;rcases b2 id hd e with⟨k,_,e⟩ | ⟨_,_,e⟩;exact V.lt k hd b e E;exact alG (hp.lt id hd b e E) fr.size;by_cases hk:∃ k,k<h'.length/\j9 ids L k=id
 obtain⟨k,hkl,rfl⟩:=hk;rw[q1 k (al4 _) (by omega),Nat.sub_zero]at hdd |-;rw[u7]at hdd;obtain⟨hd,Y,X⟩:=V.obs k hdd;exact⟨hd,by grind,Eh rn k1 (λb _=>k2 b) X⟩;have U:∀ i,0<=i->i<0+h'.length->j9 ids L i≠id:=λi _ hi e=>hk ⟨i,by omega,e⟩;rw[q2 id U]at hdd |-;obtain⟨hd,Y,X⟩:=hp.obs id hdd;have hm:id ∉ ids:=λhm=>by
  grind [List.getElem?_of_mem,qG]
 refine⟨hd,b3 id hd hm Y,X.carry (fr2.apD (F:=F)).apz fr.size λb E=>hold b (hp.lt id hd b Y E) ?_⟩;rintro⟨k,hd',e',hb'⟩;exact hpm.apart k hd' b e' hb' ((W b).2 (.inr ⟨id,hd,hm,Y,E⟩))
theorem LG(hG:aoI P G)(Y:Hp F own w h){args:List SV}{vs:Array Value}(hr:api F own w args vs){ids:List Nat}(hn:ids.Nodup){c:ao3}(hc:G.o f (args.map (ren (inN ids) 6)) (rF h ids)=some c)(W:c.pre)(E:∀ id∈ids,id<h.length):
  (callFunc f vs).run P w=.ok (.enter f vs) w/\Calls P f vs w (λe w'=>∃ r P1,c.post r/\match c.res r with
   | .ret s h'=>(∃ u,e=.returned u/\Rel F P1 w' (ren (rB ids h.length) 3 s) u)/\Hp F P1 w' (mJ ids h.length h 0 h')/\Fr { w:=w,own:=own} P1 w'
   | .pan x h'=>e=.panicked [{ v:=x,recovered:=false}]/\Hp F P1 w' (mJ ids h.length h 0 h')/\Fr { w:=w,own:=own} P1 w'):=by
 refine⟨(hG.o f).enter _ _ c hc vs w,?_⟩;obtain⟨Fm,om,U,X,rn,V,o1,o2⟩:=Yc Y ids hn;refine((hG.o f).calls _ _ c hc W Fm om w vs U ⟨by simpa using hr.1,λj s hj=>?_⟩).mono ?_;obtain⟨x,hx,rfl⟩:=ou hj;exact Dl rn (λb hb hb2=>hb ((X b).1 hb2)) 6 x _ (hr.2 j x hx);rintro e w' ⟨r,bo,h1,h2⟩;have hml:(rF h ids).length=ids.length:=by simp[rF]
 cases O:c.res r with
 |ret s h'=>
  rw[O]at h2;obtain⟨⟨u,q1,q2⟩,q3,q4,q5⟩:=h2;obtain⟨P1,k1,k2,k3⟩:=H7 Y hn E U X V o1 q3 q4 (by omega);exact⟨r,P1,h1,by grind⟩
 |pan x h'=>
  rw[O]at h2;obtain⟨q1,q3,q4,q5⟩:=h2;obtain⟨P1,k1,k2,k3⟩:=H7 Y hn E U X V o1 q3 q4 (by omega);exact⟨r,P1,h1,by grind⟩
theorem LH(hG:aoI P G)(O:Hp F own w h){id:Nat}{hd:Hd}(E:own id=some hd){args:List SV}{vs:Array Value}(hr:api F own w args vs)(hnp:args.all (dA 3)=true){r:Res}(ho:aq h id=.ab r){c:ap_}(hc:G.y args r=some c)(hpre:c.pre):
  aax P hd.v vs w (λe w'=>∃ a P1,c.post a/\e=.returned (.bool (c.res a).1)/\Hp F P1 w' (cF h id (.ab (c.res a).2))/\Fr { w:=w,own:=own} P1 w'):=by
 obtain⟨hd',e0,hv,hR⟩:=O.at ho rfl;rw[E]at e0;cases e0;have hlt:=O.dom id hd E;let F1:Nat->Prop:=λb=>df F own b/\b ∉ hd.bs
 have hF1:∀ b,F1 b->b<w.heap.size:=by
  rintro b ⟨W| ⟨id',hd',e,hbb⟩,_⟩;exact O.aoY b W;exact O.lt id' hd' b e hbb
 have hy:=hG.y args r c hc hpre F1 hd.bs w vs hR hF1 (λb hb=>⟨O.lt id hd b E hb,λW=>W.2 hb⟩) ⟨hr.1,λj s hj=>by
  rw[al0]at hnp;refine(hr.2 j s hj).ao_ (gT 3 s (hnp s (alH hj))) λb hb=>nX ?_;rintro (W|hbb);exact hb W.1;exact hb (.inr ⟨id,hd,E,hbb⟩)⟩
 rw[hv];have mono:∀ (e:Ending) (w':World),(∃ a Y,c.post a/\e=.returned (.bool (c.res a).1)/\(c.res a).2.R F1 Y w'/\(c.res a).2.yv=r.yv/\YFr hd.bs Y w w')->∃ a P1,c.post a/\e=.returned (.bool (c.res a).1)/\Hp F P1 w' (cF h id (.ab (c.res a).2))/\Fr { w:=w,own:=own} P1 w':=by
  rintro e w' ⟨a,Y,h1,h2,h3,h4,X⟩;let hd2:Hd:= { hd with bs:=Y}
  have fr:Fr { w:=w,own:=own} (own.set id hd2) w':=Fr.apM (λi hi e=>by
    by_cases hii:i=id
    subst hii;rw[E]at e;cases e;exact⟨hd2,Own.apj _ _ _,rfl,rfl,rfl⟩;exact⟨hi,by grind [Own.apr],.refl _⟩) (λi hi b e hbb=>by
    by_cases hii:i=id
    subst hii;rw[Own.apj]at e;cases e;rcases(X.bs b hbb).2 with hb|hb <;>grind;grind [Own.apr]) (λb hb hn=>X.block b hb λU=>hn ⟨id,hd,E,U⟩) X.size X.os X.tape X.output
  refine⟨a,own.set id hd2,h1,h2,O.upd fr.apD (· =id) (by rw[cB,if_pos hlt];omega) (λi hi=>⟨Own.apr _ _ hi,by rw[dF,if_neg (λe=>hi e.symm)],λhd' b e hbb=>X.block b (O.lt i hd' b e hbb) λU=>hi (O.inj i id hd' hd b e E hbb U)⟩) (λi hd' hi e=>?_) (λi hi _=>?_),fr⟩;subst hi;rw[Own.apj]at e;cases e;refine⟨by simp_all [cB],λb hb=>⟨(X.bs b hb).1,λW=>?_,λj hj hne e V=>?_⟩⟩;rcases(X.bs b hb).2 with U|hge;exact O.apart _ hd b E U W;have:=O.aoY b W;omega;rw[Own.apr _ _ hne]at e;rcases(X.bs b hb).2 with U|hge;exact hne (O.inj j _ hj hd b e E V U);have:=O.lt j hj b e V;omega;subst hi;refine⟨hd2,Own.apj _ _ _,?_⟩;rw[dF,if_pos rfl];refine⟨hv.trans h4.symm,(c.res a).2.loc _ _ _ w' w' h3 (alw _) (λ_ _ _=>rfl) ?_⟩;rintro b _ ⟨W| ⟨j,hj,e,V⟩,hnb⟩;exact⟨.inl W,λU=>O.apart _ hd b E U W⟩;by_cases hji:j=i
  grind [Own.apj]
  rw[Own.apr _ _ hji]at e;exact⟨.inr ⟨j,hj,e,V⟩,λU=>hji (O.inj j _ hj hd b e E V U)⟩
 rcases hy with⟨f,as,q1,q2⟩ | ⟨l,f,tmps,as,bd,q1,q2,q3⟩;exact .inl ⟨f,as,q1,q2.mono mono⟩;exact .inr ⟨l,f,tmps,as,bd,q1,q2,λcc cs hro=>by
  obtain⟨e,w',hR',rest⟩:=q3 cc cs hro;simp_all <;>grind⟩
end
end Go.Sx
end
