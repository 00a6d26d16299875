/- Part of the proof of the law RefuseHoldsSpec (the Upto form). -/
import Derived.Test.YtaikmgjfkejlkaaGreatT102
import Derived.Laws.IdiomRangeMap
set_option linter.all false
set_option maxHeartbeats 4000000
set_option maxRecDepth 100000
section
namespace Go.Sx
open Go.RowKit
section
variable {κ υ:Type}[DecidableEq κ]
def qu:List (κ×υ)->κ->Option Nat
 | [],_=>none|(a,_)::r,x=>if x=a then some 0 else(qu r x).map (· +1)
theorem xc {x:κ}:∀ {l:List (κ×υ)},qu l x=none->i6 l x=none/\(∀ y,v9 l x y=l++[(x,y)])/\Ss l x=l.length
 | [],_=>⟨rfl,λ_=>rfl,rfl⟩
 |(a,b)::r,h=>by
  simp[qu]at h;split at h
  cases h;have h':qu r x=none:=by simp_all
  have⟨h1,h2,h3⟩:=xc h';grind [i6,v9,Ss]
theorem uP {x:κ}:∀ {l:List (κ×υ)} {i:Nat},qu l x=some i->∃ y,l[i]? =some (x,y)/\i6 l x=some y/\(∀ z,v9 l x z=l.set i (x,z))/\Ss l x=i
 | [],i,h=>by simp[qu]at h
 |(a,b)::r,i,h=>by
  simp[qu]at h;split at h
  simp at h;subst h;simp_all [i6,v9,Ss];cases E:qu r x with
  |none=>grind
  |some j=>
   have⟨y,h1,h2,h3,h4⟩:=uP E;grind [i6,v9,Ss]
end
section
variable {P:Program}{F:Nat->Prop}{own:Own}{w:World}
theorem Nv (a b:ByteArray):(a==b)=true↔a=b:=by
 have⟨x⟩:=a;have⟨y⟩:=b;show(x==y)=true↔_;simp
theorem xZ (k:Tag)(x:k.T):wX (dX k) (cellsOf k x)=true:=by
 cases k <;>first|rfl|(cases x <;>rfl)
theorem Hw:∀ {a b:List Nat},G4 a b=true->a=b
 | [],[],_=>rfl
 |x::a,y::b,h=>by simp only[G4,ap9]at h;rw[ap_ h.1,Hw h.2]
 | [],_::_,h=>by simp[G4]at h
 |_::_,[],h=>by simp[G4]at h
theorem P4:∀ {ks:List Kd} {l m:List SV},wX ks l=true->wX ks m=true->(∀ c∈ks.map jY,c≠0)->∃ b,eqL (ks.map jY) l m=some b/\(b=true↔l=m)
 | [],l,m,h1,h2,_=>by
  have e1:=xb h1;have e2:=xb h2;subst e1;subst e2;exact⟨true,rfl,by simp⟩
 |k::ks,l,m,h1,h2,hc=>by
  obtain⟨x,r,rfl,Y,f2⟩:=rT h1;obtain⟨y,s,rfl,O,g2⟩:=rT h2;have⟨b,e1,e2⟩:=P4 f2 g2 (λc X=>hc c (by simp[X]));have V:=hc (jY k) (by simp);have:∃ W,eqV (jY k) x y=some W/\(W=true↔x=y):=by
   cases k with
   |s=>
    have E:=LN Y;have hy:=LN O;rw[<-E,<-hy];refine⟨toS x==toS y,by rfl,by simp[Nv]⟩
   |b=>
    have E:=LO Y;have hy:=LO O;rw[<-E,<-hy];refine⟨toB x==toB y,by rfl,by simp⟩
   |n k=>
    have E:=LP Y;have hy:=LP O;rw[<-E,<-hy];refine⟨toI x==toI y,by simp[eqV,jY],by simp⟩
   |r k=>simp[jY]at V|m a b=>simp[jY]at V|f=>simp[jY]at V
  have⟨W,e3,e4⟩:=this;simp_all [eqL,Cj]
variable {t:TypeId}{k:Tag}
theorem DS(h:Pu P t=some k):∃ i d,P.info? t=some i/\Ba P t i=some k/\P.underlying t=some d/\lw P t=qx k/\
  ((lw P t=true/\(dX k).map jY=pw P t d/\pw P t d≠[])\/(lw P t=false/\(dX k).map jY=[cG (some d)]/\cG (some d)≠0)):=by
 unfold Pu at h;cases V:Pt P t with
 |none=>grind
 |some k'=>
  rw[V]at h;simp at h;cases E:Sr P t k' with
  |false=>grind
  |true=>
   rw[E]at h;simp[cond_true,aqd]at h;subst h;have⟨i,hi,auX⟩:=DR V;unfold Sr at E;split at E
   rename_i d hd;refine⟨i,d,hi,auX,hd,(Cz (F:=λ_=>False) (own:=dI) (w:=default) auX).2.2.1,?_⟩;cases O:lw P t with
   |true=>
    rw[O]at E;simp[cond_true,ap9]at E;have e:=Hw E.1;refine .inl ⟨rfl,e,λhn=>?_⟩;simp_all
   |false=>
    rw[O]at E;simp only[cond_false,ap9]at E;exact .inr ⟨rfl,Hw E.1,by have:=nbl E.2;omega⟩
   cases E
variable {d:TypeDesc}
theorem Hz(c:Nat)(h:c∈pw P t d):c≠0:=by
 unfold pw at h;split at h
 rename_i fs;cases E:!P.stoodInHeld t&& !P.eqGuardType P.depth t&&eqFields P 0 fs.toList with
 |false=>grind
 |true=>
  have:∀ (l:List Field) (n:Nat),eqFields P n l=true->c∈l.map (λf=>cG (P.underlying f.type))->c≠0:=by
   intro l;induction l with
   |nil=>grind
   |cons f l V=>
    intro n O hm;simp only[eqFields,ap9]at O;simp[aqZ,aqg]at hm;rcases hm with rfl|hm;have:=nbl O.1.2;omega;grind
  grind
 rename_i n e;cases E:!P.eqGuardType P.depth t&&Nat.blt 0 (cG (P.underlying e))&&Nat.beq (pY P e) 1 with
 |false=>grind
 |true=>
  rw[E]at h;simp only[ap9]at E;have:=List.eq_of_mem_replicate h;have h2:=nbl E.1.2;omega
 cases h
theorem HA {d:Nat}{e:TypeId}(hc:cG (P.underlying e)≠0):∀ (n m:Nat) (O E:List SV) (xs V:Array Value) (b:Bool),eqL (List.replicate n (cG (P.underlying e))) O E=some b->m+O.length<=xs.size->m+E.length<=V.size->
  (∀ (j:Nat) (s:SV),O[j]? =some s->Rel F own w s (xs.getD (m+j) undef))->(∀ (j:Nat) (s:SV),E[j]? =some s->Rel F own w s (V.getD (m+j) undef))->
  (Op.eqItems (d+1) e 1 xs V (List.range' m n)).run P w=.ok b w
 |0,m,O,E,xs,V,b,h,_,_,_,_=>by
  cases O <;>cases E <;>simp[eqL]at h;simp_all [Op.eqItems]
 |n+1,m,O,E,xs,V,b,h,h1,h2,h3,h4=>by
  cases O with
  |nil=>simp[eqL]at h
  |cons x O=>
   cases E with
   |nil=>simp[eqL]at h
   |cons y E=>
    simp[List.replicate_succ,eqL]at h;cases Y:eqV (cG (P.underlying e)) x y with
    |none=>grind [Cj]
    |some b1=>
     cases W:eqL (List.replicate n (cG (P.underlying e))) O E with
     |none=>grind [Cj]
     |some b2=>
      rw[Y,W]at h;simp[Cj,aqd]at h;subst h;simp[aqc]at h1 h2;have e1:=xY (P:=P) (w:=w) hc (xs:=xs) (n:=m) XM;have e2:=xY (P:=P) (w:=w) hc (xs:=V) (n:=m) XM;have X:=SQ (P:=P) (h3 0 x rfl) (h4 0 y rfl) Y d;simp only[arv]at X;rw[arJ];simp only[Op.eqItems,asC,aqF,e1,e2,aqK,X];cases b1 with
      |false=>simp
      |true=>
       have ih:=HA (d:=d) hc n (m+1) O E xs V b2 W XM XM (λj s hj=>by have:=h3 (j+1) s XN;grind) (λj s hj=>by have:=h4 (j+1) s XN;grind);grind
theorem P5(hd:P.underlying t=some d){Y X:List SV}{xs E:Array Value}(V:atP F own w Y xs)(hy:atP F own w X E){b:Bool}
  (hc:pw P t d≠[]) (h:eqL (pw P t d) Y X=some b):(Op.equal t (.agg xs) (.agg E)).run P w=.ok b w/\P.eqGuardType P.depth t=false:=by
 cases d with
 |struct fs=>exact P2 hd V hy hc h
 |array n e=>
  simp[pw]at hc h;cases hb:!P.eqGuardType P.depth t&&Nat.blt 0 (cG (P.underlying e))&&Nat.beq (pY P e) 1 with
  |false=>grind
  |true=>
   rw[hb]at h;simp only[ap9,aqA]at hb;have⟨⟨q1,q2⟩,q3⟩:=hb;refine⟨?_,q1⟩;have h1:=ap_ q3;have hi:∃ i,P.info? e=some i/\i.size=1:=by
    grind [pY]
   have⟨i,hi,his⟩:=hi;unfold Op.equal Op.maxDepth;rw[run_equalIn_array (w:=w) 9999 xs E hd hi];have O:P.cellsOf e=1:=by grind [Program.cellsOf]
   rw[O,List.range_eq_range'];exact HA (d:=9998) (by have:=nbl q2;omega) n 0 Y X xs E b h (by rw[V.1];omega) (by rw[hy.1];omega) (λj s W=>by simpa using V.2 j s W) (λj s W=>by simpa using hy.2 j s W)
 |_=>exact absurd rfl hc
theorem At{x:k.T}(h:qx k=true):svT k x=.agg (cellsOf k x):=by grind [svT]
theorem wp {l:List SV}{v:Value}(h:Rel F own w (.agg l) v):∃ vs,v=.agg vs/\atP F own w l vs:=by
 cases h with|agg E h1=>exact⟨_,rfl,E,h1⟩
theorem CA{x:k.T}(h:qx k=false){s:SV}(E:cellsOf k x=[s]):svT k x=s:=by unfold svT;rw[h,E];rfl
theorem SX{k:Kd}{O X:SV}(hc:jY k=cG (some d))(h0:jY k≠0)(fx:fit k O=true)(fy:fit k X=true){W E:Value}(V:Rel F own w O W)(hy:Rel F own w X E):
  ∃ b,Instr.sameNow d W E=some b/\(b=true↔O=X)/\(b=true->W=E):=by
 cases k with
 |s=>
  have e1:=LN fx;have Y:=LN fy;rw[<-e1]at V |-;rw[<-Y]at hy |-;have:=cV V;have:=cV hy;subst W;subst E;cases d <;>simp[jY,cG]at hc;exact⟨toS O==toS X,rfl,by simp[Nv],by simp[Nv]⟩
 |b=>
  have e1:=LO fx;have Y:=LO fy;rw[<-e1]at V |-;rw[<-Y]at hy |-;have:=cV V;have:=cV hy;subst W;subst E;cases d <;>simp[jY,cG]at hc;exact⟨toB O==toB X,rfl,by simp,by simp⟩
 |n k=>
  have e1:=LP fx;have Y:=LP fy;rw[<-e1]at V |-;rw[<-Y]at hy |-;have:=cV V;have:=cV hy;subst W;subst E;cases d <;>simp[jY,cG]at hc;exact⟨toI O==toI X,by simp[Instr.sameNow],by simp,by simp⟩
 |r k=>simp[jY]at h0|m a b=>simp[jY]at h0|f=>simp[jY]at h0
theorem Be {kk V:Tag}{E:TypeId}{O:Value}{x:kk.T}:∀ (es:List MapEntry) (l:List (kk.T×V.T)) (n:Nat),es.length=l.length->(∀ (i:Nat) (p:kk.T×V.T),l[i]? =some p->∃ e:MapEntry,es[i]? =some e/\∃ b,(Op.equal E O e.key).run P w=.ok b w/\(b=true↔x=p.1))->
  (Instr.findAsking E O es n).run P w=.ok ((qu l x).bind λi=>(es[i]?).map λe=>(n+i,e.val)) w
 | [],[],n,_,_=>by rfl
 | [],_::_,_,h,_=>by simp at h
 |_::_,[],_,h,_=>by simp at h
 |e::es,(a,c)::l,n,Y,h=>by
  have⟨e',e1,b,e2,e3⟩:=h 0 _ rfl;simp at e1;subst e1;have W:=Be es l (n+1) XN (λi p X=>by
   have⟨e',q1,q2⟩:=h (i+1) p XN;exact⟨e',XN,q2⟩)
  simp[Instr.findAsking,aqF,e2];cases b with
  |true=>
   simp_all [qu]
  |false=>
   simp[aqy,if_false,qu];rw[W];cases qu l x <;>grind
theorem HB {kk O:Tag}{d:TypeDesc}{E:Value}{x:kk.T}:∀ (es:List MapEntry) (l:List (kk.T×O.T)) (n:Nat),es.length=l.length->(∀ (i:Nat) (p:kk.T×O.T),l[i]? =some p->∃ e:MapEntry,es[i]? =some e/\∃ b,Instr.sameNow d E e.key=some b/\(b=true↔x=p.1))->
  Instr.findNow d E es n=some ((qu l x).bind λi=>(es[i]?).map λe=>(n+i,e.val))
 | [],[],n,_,_=>by rfl
 | [],_::_,_,h,_=>by simp at h
 |_::_,[],_,h,_=>by simp at h
 |e::es,(a,c)::l,n,X,h=>by
  have⟨e',e1,b,e2,e3⟩:=h 0 _ rfl;have V:=HB es l (n+1) XN (λi p W=>by
   have⟨e',q1,q2⟩:=h (i+1) p XN;exact⟨e',XN,q2⟩)
  simp[Instr.findNow];cases b with
  |true=>
   grind [qu]
  |false=>
   simp[qu];rw[V];cases qu l x <;>grind
theorem DT{c:Nat}(h:(dX k).map jY=[c])(x:k.T):∃ κ s,dX k=[κ]/\jY κ=c/\cellsOf k x=[s]/\fit κ s=true:=by
 have E:=xZ k x;cases O:dX k with
 |nil=>grind
 |cons κ r=>
  rw[O]at h E;simp[aqZ,arP,List.map_eq_nil_iff]at h;obtain⟨h1,rfl⟩:=h;have⟨s,r,hs,f1,f2⟩:=rT E;have:=xb f2;grind
variable {vx:Value}
theorem x7{kk W:Tag}{kt:TypeId}(hk:Pu P kt=some kk){x:kk.T}(V:Rel F own w (svT kk x) vx){l:List (kk.T×W.T)}{es:Array MapEntry}(hl:es.size=l.length)(O:∀ (i:Nat) (p:kk.T×W.T),l[i]? =some p->∃ e,es[i]? =some e/\Rel F own w (svT kk p.1) e.key):
  (Instr.findKey kt vx es.toList).run P w=.ok ((qu l x).bind λi=>(es[i]?).map λe=>(i,e.val)) w:=by
 have⟨i,d,hi,auX,hd,ha,hcase⟩:=DS hk;unfold Instr.findKey;simp[aqF,run_underlying hd,aqK];rcases hcase with⟨h1,h2,h3⟩ | ⟨h1,h2,h3⟩;rw[h1]at ha;rw[At ha.symm]at V;obtain⟨xs,rfl,Y⟩:=wp V;have E:∀ (i:Nat) (p:kk.T×W.T),l[i]? =some p->∃ e:MapEntry,es.toList[i]? =some e/\∃ b,(Op.equal kt (.agg xs) e.key).run P w=.ok b w/\(b=true↔x=p.1):=λi p hp=>by
  have⟨e,e1,e2⟩:=O i p hp;rw[At ha.symm]at e2;have⟨ys,hy1,hy2⟩:=wp e2;refine⟨e,XN,?_⟩;have⟨b,q1,q2⟩:=P4 (xZ kk x) (xZ kk p.1) (λc hc=>by rw[h2]at hc;exact Hz c hc);rw[h2]at q1;rw[hy1];exact⟨b,(P5 hd Y hy2 h3 q1).1,by rw[q2];exact⟨λh=>E_ h,λh=>by rw[h]⟩⟩
 have X:=Be (P:=P) (w:=w) es.toList l 0 XM E;simp[asg]at X;have hnow:Instr.findNow d (.agg xs) es.toList 0=none\/es.toList=[]:=by
  cases hel:es.toList with
  |nil=>grind
  |cons e r=>
   simp[Instr.findNow];have:Instr.sameNow d (.agg xs) e.key=none:=by cases d <;>rfl
   rw[this]
 grind [Instr.findNow,Instr.findAsking]
 rw[h1]at ha;have⟨κ,s,k1,k2,k3,k4⟩:=DT h2 x;rw[CA ha.symm k3]at V;have E:∀ (i:Nat) (p:kk.T×W.T),l[i]? =some p->∃ e:MapEntry,es.toList[i]? =some e/\∃ b,Instr.sameNow d vx e.key=some b/\(b=true↔x=p.1):=λi p hp=>by
  have⟨e,e1,e2⟩:=O i p hp;have⟨κ',s',m1,m2,m3,m4⟩:=DT h2 p.1;rw[k1]at m1;cases m1;rw[CA ha.symm m3]at e2;have⟨b,q1,q2,_⟩:=SX k2 XM k4 m4 V e2;exact⟨e,XN,b,q1,by exact⟨λh=>E_ XN,λh=>XN⟩⟩
 have hfn:=HB (d:=d) es.toList l 0 XM E;simp_all
theorem zA {em:Bool}{xs:Array Value}:∀ (fs:List Field) (n:Nat),eqFields P n fs=true->n+fs.length<=xs.size->
  (forIn fs PUnit.unit (λf (_:PUnit) =>do
   if f.name≠ "_" then Instr.checkKey em 9999 f.type (<-part f.type xs f.offset)
   pure (ForInStep.yield PUnit.unit)):Sem PUnit).run P w=.ok PUnit.unit w
 | [],n,_,_=>by simp
 |f::fs,n,O,E=>by
  simp only[eqFields,ap9]at O;have⟨⟨⟨q1,q2⟩,q3⟩,q4⟩:=O;have hc:cG (P.underlying f.type)≠0:=by have:=nbl q3;omega
  simp[aqc]at E;have W:=xY (P:=P) (w:=w) hc (xs:=xs) (n:=n) XM;have Y:(Instr.checkKey em 9999 f.type (xs.getD n undef)).run P w=.ok () w:=by
   unfold Instr.checkKey;cases V:P.underlying f.type with
   |none=>grind [cG]
   |some d=>
    rw[V]at hc;simp[aqF,run_underlying V];cases d <;>simp[cG]at hc <;>simp
  have X:=zA (em:=em) (xs:=xs) fs (n+1) q4 XM;simp_all
theorem Bf {em:Bool}{e:TypeId}(hc:cG (P.underlying e)≠0)(O:(sizeOf e).run P w=.ok 1 w){xs:Array Value}:∀ (n m:Nat),m+n<=xs.size->
  (forIn (List.range' m n) PUnit.unit (λi (_:PUnit) =>do
   Instr.checkKey em 9999 e (<-part e xs (i*(<-sizeOf e)))
   pure (ForInStep.yield PUnit.unit)):Sem PUnit).run P w=.ok PUnit.unit w
 |0,m,_=>by simp
 |n+1,m,hle=>by
  have V:=xY (P:=P) (w:=w) hc (xs:=xs) (n:=m) XM;have X:(Instr.checkKey em 9999 e (xs.getD m undef)).run P w=.ok () w:=by
   unfold Instr.checkKey;cases E:P.underlying e with
   |none=>grind [cG]
   |some d=>
    rw[E]at hc;simp[aqF,run_underlying E];cases d <;>simp[cG]at hc <;>simp
  have W:=Bf (em:=em) hc O (xs:=xs) n (m+1) XM;simp_all [arJ]
theorem wq{kk:Tag}{O:TypeId}(hk:Pu P O=some kk){x:kk.T}(Y:Rel F own w (svT kk x) vx)(em:Bool):(Instr.checkKey em 10000 O vx).run P w=.ok () w:=by
 have⟨i,d,hi,auX,hd,ha,hcase⟩:=DS hk;rcases hcase with⟨h1,h2,W⟩ | ⟨h1,h2,W⟩;rw[h1]at ha;rw[At ha.symm]at Y;obtain⟨xs,rfl,X⟩:=wp Y;have E:(pw P O d).length=xs.size:=by
  rw[X.1,<-h2,aq5];have:(dX kk).length=(cellsOf kk x).length:=by cases kk <;>rfl
  rw[this,cb]
 unfold Instr.checkKey;simp[aqF,run_underlying hd];cases d with
 |struct fs=>
  simp[pw]at W E;cases V:!P.stoodInHeld O&& !P.eqGuardType P.depth O&&eqFields P 0 fs.toList with
  |false=>grind
  |true=>
   simp[ap9]at V;have:=zA (P:=P) (w:=w) (em:=em) (xs:=xs) fs.toList 0 V.2 XN;simp_all
 |array n e=>
  simp[pw]at W E;cases V:!P.eqGuardType P.depth O&&Nat.blt 0 (cG (P.underlying e))&&Nat.beq (pY P e) 1 with
  |false=>grind
  |true=>
   simp only[ap9]at V;have hs1:=ap_ V.2;have hs:(sizeOf e).run P w=.ok 1 w:=by
    grind [pY,dU]
   have:=Bf (P:=P) (w:=w) (em:=em) (xs:=xs) (e:=e) (by have:=nbl V.1.2;omega) hs n 0 XN;simp_all
 |_=>exact absurd rfl W
 unfold Instr.checkKey;simp[aqF,run_underlying hd];cases d <;>simp[cG]at W <;>simp
end
def CB (w:World)(b:Nat)(o:Obj):World:= { w with heap:=w.heap.setIfInBounds b o}
def SY {w:World}{b k:Nat}{o:Obj}(h:k≠b):(CB w b o).heap[k]? =w.heap[k]?:=by
 grind [CB]
section
variable {P:Program}{F:Nat->Prop}{own:Own}{w:World}
theorem SZ {z:Value}(h:G1 z=true):z=.agg z.cells:=by
 cases z <;>first|rfl|simp[G1]at h
variable {t:TypeId}{k:Tag}
def P6{i:TypeInfo}(h:Ba P t i=some k){z:Value}(V:i.zero=some z):Rel F own w (svT k (eT k)) z:=by
 have⟨t1,t2,t3,t4⟩:=Cz (F:=F) (own:=own) (w:=w) h;have⟨q1,q2⟩:=t4 z V;cases E:qx k with
 |true=>
  rw[At E,SZ (q2.trans E)];exact .agg q1.1 q1.2
 |false=>
  have hc:z.cells= #[z]:=by cases z <;>first|rfl|grind [G1]
  rw[hc]at q1;have W:(cellsOf k (eT k)).length=1:=by rw[<-q1.1];rfl
  have⟨s,hs⟩:∃ s,cellsOf k (eT k)=[s]:=by
   cases O:cellsOf k (eT k) <;>grind
  rw[CA E hs];have:=q1.2 0 s (by rw[hs];rfl);simp_all
theorem Yp {s:SV}{l:List SV}(h:DI s=some l):l=[s]:=by
 unfold DI at h;split at h
 cases h;cases h
 ·rename_i h1 h2;cases s <;>first|(simp[rI]at h;exact h.symm) |(simp[rI]at h;done) |(exact(h1 _ rfl).elim) |skip
  rename_i x;cases x <;>first|(simp[rI]at h;exact h.symm) |(simp[rI]at h;done) |grind
variable {v:Value}
theorem ur{s:SV}(hr:Rel F own w s v){x:k.T}(h:unT k s=some x):Rel F own w (svT k x) v:=by
 unfold unT at h;cases E:qx k with
 |true=>
  rw[E]at h;rw[At E];cases hr with
  |agg W h1=>
   have:=Ht h ⟨W,h1⟩;exact .agg this.1 this.2
  |v y=>
   cases v with
   |agg cs=>
    have:=Ht h (vs:=cs) (Ar (F:=F) (own:=own) (w:=w) (.agg cs));exact .agg this.1 this.2
   |_=>simp[Kq,Pw]at h
  |_=>simp[Kq,Pw]at h
 |false=>
  rw[E]at h;cases O:DI s with
  |none=>rw[O]at h;cases h
  |some l=>
   rw[O]at h;have:=Yp O;have hc:=nZ h;have V:=SP h;have Y:(dX k).length=1:=by
    have:(dX k).length=ae k:=by cases k <;>rfl
    grind
   cases X:dX k with
   |nil=>grind
   |cons κ r=>
    grind [CA,qD,Bw]
theorem pc {a:Tag}{o:Option Tag}(h:mQ a o=true):o=some a:=by
 cases o with
 |none=>cases h|some b=>rw[w_ (k:=a) (k':=b) h]
variable {ti:TI}{kk O:Tag}
theorem BC(V:jZ P t=some ti)(W:ti.mkt=some kk)(X:ti.mvt=some O):∃ E e,P.underlying t=some (.map E e)/\Pu P E=some kk/\Pt P e=some O:=by
 obtain⟨i,d,z,hi,hd,Y,hq,rfl⟩:=bY V;cases d <;>simp[eD]at W X;grind
variable {E:Tag}
theorem Wq(l:List (kk.T×E.T))(p:Option (Nat×Option kk.T))(x:kk.T):(i6 (fB kk E l p) x).getD (eT E)=(i6 l x).getD (eT E):=by
 match p with
 |none=>rfl|some (_,none) =>rfl
 |some (_,some y) =>
  simp[fB];split
  rfl
  ·have:∀ (l:List (kk.T×E.T)),i6 (l++[(y,eT E)]) x=match i6 l x with|some v=>some v|none=>if x=y then some (eT E)else none:=by
    intro l;induction l with
    |nil=>simp[i6]|cons a l O=>simp[aqB,i6];grind
   rw[this];cases i6 l x <;>grind
variable {kt:TypeId}{vx:Value}{x:kk.T}{es:Array MapEntry}
theorem CC{e:TypeId}(hd:P.underlying t=some (.map kt e))(hk:Pu P kt=some kk)(hv:Pt P e=some E){m:Value}(Y:Rel F own w (svT kk x) vx){L:List (kk.T×E.T)}
  (hm:(m=.map none/\es= #[])\/∃ b clock,m=.map (some b)/\w.heap[b]? =some (.map es clock)) (hl:es.size=L.length) (O:∀ (i:Nat) (p:kk.T×E.T),L[i]? =some p->∃ e,es[i]? =some e/\Rel F own w (svT kk p.1) e.key/\Rel F own w (svT E p.2) e.val) (ok:Bool):
  ∃ v,(Instr.lookup t m vx ok).run P w=.ok (if ok then .tuple #[v,.bool (i6 L x).isSome]else v) w/\Rel F own w (svT E ((i6 L x).getD (eT E))) v:=by
 have⟨i,hi,auX⟩:=DR hv;have W:∃ z,i.zero=some z:=by
  have:=DQ auX;simp[G3]at this;grind
 have⟨z,W⟩:=W;have hck:=wq hk Y es.isEmpty;have hfk:=x7 hk Y hl (λi p hp=>by have⟨e,e1,e2,_⟩:=O i p hp;grind);have hzr:=P6 (F:=F) (own:=own) (w:=w) auX W;have hzv:(zeroValue e).run P w=.ok z w:=by simp[zeroValue,typeInfo,hi,W]
 have V:∃ v,((∃ j,((qu L x).bind λi=>(es[i]?).map λe=>(i,e.val))=some (j,v)/\(i6 L x).isSome=true)\/(((qu L x).bind λi=>(es[i]?).map λe=>(i,e.val))=none/\v=z/\(i6 L x).isSome=false))/\Rel F own w (svT E ((i6 L x).getD (eT E))) v:=by
  cases X:qu L x with
  |none=>
   grind [xc]
  |some i=>
   have⟨y,h1,h2,_,_⟩:=uP X;have⟨e,e1,e2,e3⟩:=O i _ h1;grind
 have⟨v,h1,h2⟩:=V;refine⟨v,?_,h2⟩;rcases hm with⟨rfl,rfl⟩ | ⟨b,clock,rfl,hb⟩;simp_all [Instr.lookup,run_underlying];have hg:(getObj b).run P w=.ok (.map es clock) w:=by simp[getObj,Sem.run,hb]
 rcases h1 with⟨j,h1,h3⟩ | ⟨h1,rfl,h3⟩;simp_all [Instr.lookup,run_underlying];simp_all [Instr.lookup,run_underlying]
variable {r:OR}
theorem HC{l:List (kk.T×E.T)}{ok:Bool}{o:Option kk.T}(O:LH kk E l ok o=r)(V:r≠ .bad):∃ x,o=some x/\r=.val (bif ok then .tup [svT E (aF kk E l x),.b (zp kk E l x)]else svT E (aF kk E l x)):=by
 unfold LH at O;grind
theorem CD{y:E.T}{b:Bool}(h:Rel F own w (svT E y) v)(ok:Bool):Rel F own w (bif ok then .tup [svT E y,.b b]else svT E y) (if ok then .tuple #[v,.bool b]else v):=by
 cases ok with
 |false=>exact h
 |true=>
  refine .tup rfl λj s O=>?_;cases j with
  |zero=>simp_all
  |succ j=>
   cases j with
   |zero=>simp at O;subst O;exact .v _|succ j=>simp at O
variable {h:List Ob}{sk:SV}
theorem Yq(V:Hp F own w h)(ht:jZ P t=some ti){s:SV}(hr:Rel F own w s v)(O:Rel F own w sk vx){ok:Bool}(E:wg ti h ok sk s=r)(W:r≠ .bad):
  ∃ s',r=.val s'/\∃ u,(Instr.lookup t v vx ok).run P w=.ok u w/\Rel F own w s' u:=by
 unfold wg at E;split at E
 rename_i id;obtain⟨hdd,h1,rfl,h2⟩:=i7 hr;cases ho:aq h id with
 |mp kk vk l X=>
  rw[ho]at E;simp[Uv]at E;cases hc:mQ kk ti.mkt&&mQ vk ti.mvt&&(!ok||noE X)with
  |false=>grind
  |true=>
   rw[hc]at E;simp[ap9]at hc;obtain⟨x,hx,rfl⟩:=HC E W;have⟨kt,e,q1,q2,q3⟩:=BC ht (pc hc.1.1) (pc hc.1.2);have⟨hd',e0,b,es,clk,m1,m2,m3,m4,_⟩:=V.at ho rfl;rw[h1]at e0;cases e0;have⟨u,k1,k2⟩:=CC (P:=P) q1 q2 q3 (ur O hx) (m:=hdd.v) (.inr ⟨b,_,m1,m3⟩) m4.1 (λi p V=>by have⟨e,e1,e2,e3⟩:=m4.2 i p V;grind) ok;rw[Wq]at k2;refine⟨_,rfl,_,k1,?_⟩;have Y:ok=true->(i6 (fB kk vk l X) x).isSome=zp kk vk l x:=λhok=>by
    rw[lz XN];rfl
   have:=CD (b:=zp kk vk l x) k2 ok;cases ok with
   |false=>exact this|true=>rw[Y rfl];exact this
 |_=>rw[ho]at E;exact absurd E.symm W
 rename_i kk vk l;cases hc:mQ kk ti.mkt&&mQ vk ti.mvt with
 |false=>grind
 |true=>
  rw[hc]at E;simp[ap9]at hc;obtain⟨x,hx,rfl⟩:=HC E W;have⟨kt,e,q1,q2,q3⟩:=BC ht (pc hc.1) (pc hc.2);cases hr with
  |rm ck cv es clock h0 h1 h2 h3 h4 h5=>
   rename_i b;have⟨u,k1,k2⟩:=CC (P:=P) q1 q2 q3 (ur O hx) (m:=.map (some b)) (.inr ⟨b,_,rfl,h1⟩) h2 (λi p V=>by have⟨n,e1⟩:=h3 i p V;grind) ok;exact⟨_,rfl,_,k1,CD k2 ok⟩
  |rm0=>
   have⟨u,k1,k2⟩:=CC (P:=P) q1 q2 q3 (ur O hx) (m:=.map none) (.inl ⟨rfl,rfl⟩) rfl (λi p V=>by simp at V) ok (L:=[]);exact⟨_,rfl,_,k1,CD k2 ok⟩
 have:=cV hr;subst this;unfold X5 at E;split at E
 rename_i kk vk hk hv;obtain⟨x,hx,rfl⟩:=HC E W;have⟨kt,e,q1,q2,q3⟩:=BC ht hk hv;have⟨u,k1,k2⟩:=CC (P:=P) q1 q2 q3 (ur O hx) (m:=.map none) (.inl ⟨rfl,rfl⟩) rfl (λi p V=>by simp at V) ok (L:=[]);exact⟨_,rfl,_,k1,CD k2 ok⟩;grind
 grind
theorem Bg{κ:Kd}{s:SV}{u:Value}(O:jY κ≠0)(E:fit κ s=true)(V:Rel F own w s v)(W:Rel F own w s u)(n:Nat):u=v/\Instr.sameBits n v u=true:=by
 cases κ with
 |s=>have e:=LN E;grind [cV,Instr.sameBits,Nv]|b=>have e:=LO E;grind [cV,Instr.sameBits]|n k=>have e:=LP E;grind [cV,Instr.sameBits]|r k=>simp[jY]at O|m a b=>simp[jY]at O|f=>simp[jY]at O
theorem P7:∀ {ks:List Kd} {l:List SV} {j:Nat} {s:SV},wX ks l=true->l[j]? =some s->∃ κ,κ∈ks/\fit κ s=true
 | [],l,j,s,h,E=>by grind [xb]
 |k::ks,l,j,s,h,E=>by
  obtain⟨x,r,rfl,V,O⟩:=rT h;cases j with
  |zero=>grind|succ j=>have⟨κ,h1,h2⟩:=P7 O E;grind
theorem UG(hk:Pu P kt=some kk){u:Value}(hv:Rel F own w (svT kk x) v)(Y:Rel F own w (svT kk x) u):(Instr.keyThatStays v u).run P w=.ok u w:=by
 have⟨i,d,hi,auX,hd,ha,hcase⟩:=DS hk;have:Instr.sameBits 10000 v u=true:=by
  rcases hcase with⟨h1,h2,h3⟩ | ⟨h1,h2,h3⟩;rw[h1]at ha;rw[At ha.symm]at hv Y;obtain⟨xs,rfl,E⟩:=wp hv;obtain⟨W,rfl,V⟩:=wp Y;have X:xs.size=W.size:=E.1.trans V.1.symm;have key:∀ (j:Nat),j<xs.size->W.getD j undef=xs.getD j undef/\Instr.sameBits 9999 (xs.getD j undef) (W.getD j undef)=true:=λj hj=>by
   have O:j< (cellsOf kk x).length:=by rw[<-E.1];exact hj
   have⟨κ,q1,q2⟩:=P7 (xZ kk x) (aqf O);have hc:jY κ≠0:=by
    have:jY κ∈(dX kk).map jY:=aq1.2 ⟨κ,q1,rfl⟩;grind [Hz]
   exact Bg hc q2 (E.2 j _ (aqf O)) (V.2 j _ (aqf O)) 9999
  simp only[Instr.sameBits,ap9,beq_iff_eq,X,true_and,aqU];rintro⟨a,b⟩ hm;have⟨j,hj⟩:=aqX hm;simp_all <;>grind;have⟨κ,s,k1,k2,k3,k4⟩:=DT h2 x;grind [CA,Bg]
 simp[Instr.keyThatStays,this]
theorem aum.upd{l5:Own}{w':World}(g:at4 F own w l5 w'){V:Tag}{l:List (kk.T×V.T)}(h:aum F own w kk V l es){i:Nat}{y:V.T}{X W:Value}(Y:Rel F own w (svT kk x) X)(hy:Rel F own w (svT V y) W)(hi:i<l.length):
  aum F l5 w' kk V (l.set i (x,y)) (es.modify i λe=>{ e with key:=X,val:=W}):=by
 refine⟨by simp[h.1],λj p E=>?_⟩;rw[arT]at E;by_cases O:i=j
 subst O;rw[if_pos hi]at E;simp[aqd]at E;subst E;have⟨e,e1,e2,_⟩:=h.2 i _ (aqf hi);exact⟨{ e with key:=X,val:=W},XN,e2,Y.mono g,hy.mono g⟩;rw[if_neg O]at E;have⟨e,e1,e2,e3,e4⟩:=h.2 j p E;exact⟨e,XN,e2,e3.mono g,e4.mono g⟩
variable {l:List (kk.T×O.T)}{V:Value}
theorem aum.push{l5:Own}{w':World}(g:at4 F own w l5 w')(h:aum F own w kk O l es){y:O.T}{W:Value}(X:Rel F own w (svT kk x) W)(hy:Rel F own w (svT O y) V)(c:Nat):
  aum F l5 w' kk O (l++[(x,y)]) (es.push ⟨W,V,c⟩):=by
 refine⟨by simp[h.1],λj p E=>?_⟩;rw[aq7]at E;split at E
 have⟨e,e1,e2,e3,e4⟩:=h.2 j p E;exact⟨e,XN,e2,e3.mono g,e4.mono g⟩;have Y:j=l.length:=by
  grind
 subst Y;simp at E;subst E;exact⟨⟨W,V,c⟩,by rw[<-h.1];simp,trivial,X.mono g,hy.mono g⟩
theorem aum.erase{l5:Own}{w':World}(g:at4 F own w l5 w')(h:aum F own w kk O l es)(i:Nat):
  aum F l5 w' kk O (l.eraseIdx i) (es.eraseIdxIfInBounds i):=by
 have V:es.toList.length=l.length:=by simpa using h.1
 refine⟨?_,λj p E=>?_⟩;grind [List.length_eraseIdx]
 rw[<-asg,Array.toList_eraseIdxIfInBounds];rw[List.getElem?_eraseIdx]at E;split at E
 have⟨e,e1,e2,e3,e4⟩:=h.2 _ p E;exact⟨e,XN,e2,e3.mono g,e4.mono g⟩;have⟨e,e1,e2,e3,e4⟩:=h.2 _ p E;exact⟨e,XN,e2,e3.mono g,e4.mono g⟩
theorem Nw (es:Array MapEntry)(i:Nat)(f:MapEntry->MapEntry)(E:∀ e,(f e).born=e.born):lX (es.modify i f)=lX es:=by
 unfold lX;refine List.ext_getElem? λj=>?_;grind
variable {c:Nat}
theorem Stamped.modify{i:Nat}{f:MapEntry->MapEntry}(h:Stamped es c)(E:∀ e,(f e).born=e.born):Stamped (es.modify i f) c:=by
 grind [Stamped,Nw]
theorem Stamped.push(h:Stamped es c)(O E:Value):Stamped (es.push ⟨O,E,c⟩) (c+1):=by
 grind [lX,Stamped]
theorem Stamped.erase(h:Stamped es c)(i:Nat):Stamped (es.eraseIdxIfInBounds i) c:=by
 have e:(lX (es.eraseIdxIfInBounds i)).Sublist (lX es):=by
  grind [lX,Array.toList_eraseIdxIfInBounds]
 exact⟨h.1.sublist e,λn hn=>h.2 n (e.subset hn)⟩
theorem LR {κ υ:Type}[DecidableEq κ]{x:κ}:∀ {l:List (κ×υ)},qu l x=none->DH l x=l
 | [],_=>rfl
 |(a,b)::r,h=>by
  simp[qu]at h;split at h
  cases h;rename_i E;simp[DH,if_neg E];rw[LR (by cases O:qu r x with
   |none=>rfl
   |some i=>rw[O]at h;cases h)]
theorem LS {κ υ:Type}[DecidableEq κ]{x:κ}:∀ {l:List (κ×υ)} {i:Nat},qu l x=some i->DH l x=l.eraseIdx i
 | [],i,h=>by rfl
 |(a,b)::r,i,h=>by
  simp[qu]at h;split at h
  rename_i V;cases h;simp[DH,V];rename_i E;cases O:qu r x with
  |none=>rw[O]at h;cases h
  |some j=>
   rw[O]at h;simp at h;subst h;simp[DH,E,LS O]
theorem xd(hp:Hp F own w h){id:Nat}{hd:Hd}(h1:own id=some hd){b:Nat}(X:hd.bs=[b])(hv:hd.v=.map (some b))(hh:w.heap[b]? =some (.map es c))(E:Array MapEntry)(V:Nat){l':List (kk.T×O.T)}{p':Option (Nat×Option kk.T)}
  (hm:∀ l5 w',at4 F own w l5 w'->aum F l5 w' kk O (fB kk O l' p') E) (Y:Stamped E V) (W:auO own kk O l' E V p'):Step F own w (cO h id (.mp kk O l' p')) own (CB w b (.map E V)):=by
 refine rS hp h1 (b:=b) (by simp[X]) (by simp[CB]) (λk hk=>SY hk) rfl rfl rfl _ λg=>⟨b,E,V,hv,X,?_,hm _ _ g,Y,W⟩;grind [CB]
theorem UH(O:Hp F own w h)(ht:jZ P t=some ti){s sv:SV}{X:Value}(hr:Rel F own w s v)(hrk:Rel F own w sk V)(hrv:Rel F own w sv X)(E:FM ti h sk sv s=r)(hne:r≠ .bad):
  ∃ ups,r=.eff True True ups .any/\∃ w',(Instr.mapUpdate t v V X).run P w=.ok () w'/\Step F own w (bu h ups) own w':=by
 unfold FM at E;split at E
 rename_i id;obtain⟨hdd,h1,rfl,h2⟩:=i7 hr;cases ho:aq h id with
 |mp kk vk l Y=>
  rw[ho]at E;simp[afs]at E;cases hc:mQ kk ti.mkt&&mQ vk ti.mvt&&noE Y with
  |false=>grind
  |true=>
   rw[hc]at E;simp[ap9]at hc;unfold afr at E;split at E
   rename_i x y hx hy;subst E;have⟨kt,e,q1,q2,q3⟩:=BC ht (pc hc.1.1) (pc hc.1.2);have⟨hd',e0,b,es,clk,m1,m2,m3,m4,m5,_⟩:=O.at ho rfl;rw[h1]at e0;cases e0;rw[lz hc.2]at m4;have rx:=ur hrk hx;have ry:=ur hrv hy;have hg:(getObj b).run P w=.ok (.map es clk) w:=by simp[getObj,Sem.run,m3]
   have hset:∀ o,(setObj b o).run P w=.ok () (CB w b o):=λo=>by simp[setObj,Sem.run,m3,CB]
   have hck:=wq q2 rx false;have hfk:=x7 q2 rx m4.1 (λi p O=>by have⟨e,e1,e2,e3,_⟩:=m4.2 i p O;grind);simp[bu];cases W:qu l x with
   |none=>
    have⟨_,n2,_⟩:=xc W;have:=xd O h1 m2 m1 m3 (es.push ⟨V,X,clk⟩) (clk+1) (l':=cy kk vk l x y) (p':=none) (λl5 w' g=>by
     grind [aum.push,fB,cy]) (m5.push V X) trivial
    simp_all [Instr.mapUpdate,run_underlying]
   |some i=>
    have⟨y',n1,n2,n3,_⟩:=uP W;have⟨e',k1,k2,k3,k4⟩:=m4.2 i _ n1;have:=xd O h1 m2 m1 m3 (es.modify i λe=>{ e with key:=V,val:=X}) clk (l':=cy kk vk l x y) (p':=none) (λl5 w' g=>by
     grind [aum.upd,fB,cy]) (m5.modify λ_=>rfl) trivial
    have hst:=UG q2 k3 rx;simp_all [Instr.mapUpdate,run_underlying]
   grind
 |_=>rw[ho]at E;exact absurd E.symm hne
 grind
theorem acl(Y:Hp F own w h)(ht:jZ P t=some ti){l:List SV}{vs:Array Value}(hl:atP F own w l vs)(O:By ti h l=r)(hne:r≠ .bad){tys:Array TypeId}(hty:tys[0]? =some t)(ty:TypeId):
  ∃ ups,r=.eff True True ups .any/\∃ u w',(Builtin.delete_ tys ty vs).run P w=.ok u w'/\Step F own w (bu h ups) own w':=by
 unfold By at O;split at O
 ·rename_i id sk;have⟨vs⟩:=vs;have hsz:=hl.1;match vs,hsz with
  | [v0,vx],_=>
  have hr:Rel F own w (.os id) v0:=hl.2 0 _ rfl;have hrk:Rel F own w sk vx:=hl.2 1 _ rfl;obtain⟨hdd,h1,rfl,h2⟩:=i7 hr;cases ho:aq h id with
  |mp kk vk l aui=>
   rw[ho]at O;simp[afw]at O;cases hc:mQ kk ti.mkt&&mQ vk ti.mvt&&noE aui with
   |false=>grind
   |true=>
    rw[hc]at O;simp[ap9]at hc;unfold afv at O;split at O
    rename_i x hx;subst O;have⟨kt,e,q1,q2,q3⟩:=BC ht (pc hc.1.1) (pc hc.1.2);have⟨hd',e0,b,es,clk,m1,m2,m3,m4,m5,_⟩:=Y.at ho rfl;rw[h1]at e0;cases e0;rw[lz hc.2]at m4;have rx:=ur hrk hx;have hg:(getObj b).run P w=.ok (.map es clk) w:=by simp[getObj,Sem.run,m3]
    have W:∀ o,(setObj b o).run P w=.ok () (CB w b o):=λo=>by simp[setObj,Sem.run,m3,CB]
    have X:=wq q2 rx es.isEmpty;have V:=x7 q2 rx m4.1 (λi p Y=>by have⟨e,e1,e2,e3,_⟩:=m4.2 i p Y;grind);refine⟨_,rfl,?_⟩;cases E:qu l x with
    |none=>
     have:=xd Y h1 m2 m1 m3 es clk (l':=u6 kk vk l x) (p':=none) (λl5 w' g=>by
      simp[u6,LR E];exact m4.carry g.at7) m5 trivial
     refine⟨.tuple #[],_,?_,this⟩;rw[E]at V;simp[m1,Builtin.delete_,hty,ash,asH,asI,aqF,run_underlying q1,aqK,hg,X,V,Option.bind_none,W,ase]
    |some i=>
     have⟨y',n1,n2,n3,_⟩:=uP E;have⟨e',k1,k2,k3,k4⟩:=m4.2 i _ n1;have:=xd Y h1 m2 m1 m3 (es.eraseIdxIfInBounds i) clk (l':=u6 kk vk l x) (p':=none) (λl5 w' g=>by
      simp[u6,LS E];exact aum.erase g m4 i) (m5.erase i) trivial
     refine⟨.tuple #[],_,?_,this⟩;rw[E]at V;simp[m1,Builtin.delete_,hty,ash,asH,asI,aqF,run_underlying q1,aqK,hg,X,V,arK,k1,ar6,W,ase]
    grind
  |_=>rw[ho]at O;exact absurd O.symm hne
 grind
theorem S0{i:Nat}{e':MapEntry}(O:es[i]? =some e')(E:Value):(es.modify i λe=>{ e with key:=E})=es.modify i λe=>{ e with key:=E,val:=e'.val}:=by
 grind
theorem acm(hp:Hp F own w h){nx:Nat}(hn:auv own h nx)(ht:jZ P t=some ti){s:SV}(hr:Rel F own w s v)(hrk:Rel F own w sk vx)(V:Cn ti nx h sk s=r)(hne:r≠ .bad):
  Fc F own w h ((Instr.mapEntry t v vx).run P w) r:=by
 unfold Cn at V;split at V
 ·rename_i id;obtain⟨hdd,h1,rfl,h2⟩:=i7 hr;cases ho:aq h id with
  |mp kk vk l aui=>
   rw[ho]at V;simp only[V6]at V;cases hc:mQ kk ti.mkt&&mQ vk ti.mvt&&noE aui with
   |false=>grind
   |true=>
    rw[hc]at V;simp only[cond_true]at V;simp only[ap9]at hc;unfold V5 at V;split at V
    rename_i x hx;subst V;obtain⟨kt,e,q1,q2,q3⟩:=BC ht (pc hc.1.1) (pc hc.1.2);obtain⟨hd',e0,b,es,E,m1,m2,m3,m4,m5,_⟩:=hp.at ho rfl;rw[h1]at e0;cases e0;rw[lz hc.2]at m4;have rx:=ur hrk hx;obtain⟨i,hi,Y⟩:=DR q3;have hz:∃ z,i.zero=some z:=by
     have:=DQ Y;simp[G3]at this;grind
    obtain⟨z,hz⟩:=hz;have hzr:=P6 (F:=F) (own:=own) (w:=w) Y hz;have hzv:(zeroValue e).run P w=.ok z w:=by simp[zeroValue,typeInfo,hi,hz]
    have hg:(getObj b).run P w=.ok (.map es E) w:=by simp[getObj,Sem.run,m3]
    have hset:∀ o,(setObj b o).run P w=.ok () (CB w b o):=λo=>by simp[setObj,Sem.run,m3,CB]
    have hck:=wq q2 rx false;have hfk:=x7 q2 rx m4.1 (λi p hp=>by have⟨e,e1,e2,e3,_⟩:=m4.2 i p hp;grind);have hidn:id≠nx:=λe=>by rw[e,hn.none]at h1;cases h1
    have st1:∀ n:Nat,Step F own w (cO h nx (.fwd none)) (own.move [] nx ⟨none,.int .i64 n,[],[]⟩) w:=λn=>
     ml (nx:=nx) hp hn [] (by simp) ⟨none,.int .i64 n,[],[]⟩ (.fwd none) (λb hb=>by simp at hb) (λ_ _ _=>rfl) (aqb _) rfl rfl rfl λl5 g i hi=>by cases hi
    have go:∀ n:Nat,(own.move [] nx ⟨none,.int .i64 n,[],[]⟩) id=some hdd:=λn=>by grind [Own.move]
    have gx:∀ n:Nat,(own.move [] nx ⟨none,.int .i64 n,[],[]⟩) nx=some ⟨none,.int .i64 n,[],[]⟩:=λn=>by simp[Own.move]
    have fin:∀ (n:Nat) (O:Array MapEntry) (c':Nat),(∀ l5 w',at4 F own w l5 w'->aum F l5 w' kk vk (fB kk vk l (some (nx,some x))) O)->Stamped O c'->(∃ e,O[yR kk vk l x]? =some e/\e.born=n)->
      Step F own w (bu h [(nx,.fwd none),(id,.mp kk vk l (some (nx,some x)))]) (own.move [] nx ⟨none,.int .i64 n,[],[]⟩) (CB w b (.map O c')):=λn O c' hm hs hpd=>by
     have⟨e1,p1,p2⟩:=hpd;have s1:=st1 n;have s2:=xd s1.hp (go n) m2 m1 m3 O c' (l':=l) (p':=some (nx,some x)) (λl5 w' g=>hm _ _ ⟨λid hd h=>by have⟨hd',a,b⟩:=s1.fr.aub.ids (F:=F) id hd h;have⟨W,a2,b2⟩:=g.ids _ _ a;exact⟨W,a2,b.trans b2⟩,λb hb hn=>by
      have⟨a1,a2⟩:=s1.fr.aub.keep b hb hn;have⟨a3,a4⟩:=g.keep b hb a1;grind,g.size⟩) hs ⟨_,e1,gx n,p1,by rw[p2]⟩
     refine⟨s2.hp,s1.fr.trans s2.fr,λj X hd=>?_⟩;have W:dT (aq (cO (cO h nx (.fwd none)) id (.mp kk vk l (some (nx,some x)))) j)=true:=hd;rw[dM,dM]at W;by_cases e:j=nx
     subst e;rw[if_neg hidn,if_pos rfl]at W;cases W;grind [Own.move]
    cases hmi:qu l x with
    |none=>
     have⟨n1,n2,n3⟩:=xc hmi;have hpos:yR kk vk l x=es.size:=by rw[m4.1];simp[yR,n3]
     have:=fin E (es.push ⟨vx,z,E⟩) (E+1) (λl5 w' g=>by
      simp[fB];grind [aum.push]) (m5.push vx z) ⟨⟨vx,z,E⟩,XN,rfl⟩
     refine⟨_,_,_,_,rfl,λ_=>⟨trivial,.tuple #[z,.int .i64 E],_,_,?_,.tup rfl λj s X=>?_,this⟩⟩;simp_all [Instr.mapEntry,run_underlying,goInt];match j,X with
     |0,X=>have:=hzr.mono this.fr.aub;simp_all [aF]|1,X=>cases X;exact .os (gx E) rfl
    |some i=>
     have⟨y',n1,n2,n3,n4⟩:=uP hmi;have⟨e',k1,k2,k3,k4⟩:=m4.2 i _ n1;have hes':=S0 k1 vx;have hpos:yR kk vk l x=i:=n4;have:=fin e'.born (es.modify i λe=>{ e with key:=vx}) E (λl5 w' g=>by
      simp[fB,n2];rw[hes'];have:=aum.upd g m4 rx k4 (aqe.1 n1).1
      rwa[show l.set i (x,y')=l by
       apply List.ext_getElem?;intro j;rw[arT];grind]at this) (m5.modify λ_=>rfl) ⟨{ e' with key:=vx},XN,rfl⟩
     refine⟨_,_,_,_,rfl,λ_=>⟨trivial,.tuple #[e'.val,.int .i64 e'.born],_,_,?_,.tup rfl λj s X=>?_,this⟩⟩;have hst:=UG q2 k3 rx;simp_all [Instr.mapEntry,run_underlying,goInt];match j,X with
     |0,X=>have:=k4.mono this.fr.aub;simp_all [aF]|1,X=>cases X;exact .os (gx _) rfl
    grind
  |_=>rw[ho]at V;exact absurd V.symm hne
 grind
theorem Yr{i:Nat}{e:MapEntry}(E:(lX es).Nodup)(hi:es[i]? =some e):es.findIdx? (λx=>(x.born:Int) ==(e.born:Int))=some i:=by
 rw[Array.findIdx?_eq_some_iff_getElem];grind [List.pairwise_iff_getElem,lX]
theorem acn(hp:Hp F own w h)(ht:jZ P t=some ti){s ss sv:SV}{vs Y:Value}(hr:Rel F own w s v)(hrs:Rel F own w ss vs)(hrv:Rel F own w sv Y)(E:Ng ti h sv s ss=r)(V:r≠ .bad):
  ∃ c ups,r=.eff c True ups .any/\(c->∃ w',(Instr.entryStore t v vs Y).run P w=.ok () w'/\Step F own w (bu h ups) own w'):=by
 unfold Ng at E;split at E
 ·rename_i id n;obtain⟨hdd,h1,rfl,h2⟩:=i7 hr;obtain⟨hds,s1,rfl,_⟩:=i7 hrs;cases ho:aq h id with
  |mp kk O l aui=>
   rw[ho]at E;cases aui with
   |none=>exact absurd E.symm V
   |some q=>
   have⟨n',q⟩:=q;cases q with
   |none=>exact absurd E.symm V
   |some x=>
   simp[afu]at E;cases hc:mQ kk ti.mkt&&mQ O ti.mvt&&Nat.beq n' n with
   |false=>grind
   |true=>
    rw[hc]at E;unfold aft at E;split at E
    rename_i y hy;subst E;have⟨hd',e0,b,es,clk,m1,m2,m3,m4,m5,hd2,e',t1,k1,t3⟩:=hp.at ho rfl;rw[h1]at e0;cases e0;have ry:=ur hrv hy;refine⟨_,_,rfl,λ_=>?_⟩;simp[bu];have hg:(getObj b).run P w=.ok (.map es clk) w:=by simp[getObj,Sem.run,m3]
    have hset:∀ o,(setObj b o).run P w=.ok () (CB w b o):=λo=>by simp[setObj,Sem.run,m3,CB]
    have W:∃ y0,(fB kk O l (some (n',some x)))[yR kk O l x]? =some (x,y0)/\cy kk O l x y=(fB kk O l (some (n',some x))).set (yR kk O l x) (x,y):=by
     cases X:qu l x with
     |none=>
      have⟨n1,n2,n3⟩:=xc X;simp_all [fB,yR,cy]
     |some i=>
      have⟨y',n1,n2,n3,n4⟩:=uP X;grind [fB,yR,cy]
    have⟨y0,p1,p2⟩:=W;have⟨e'',k1',k2,k3,k4⟩:=m4.2 _ _ p1;rw[k1]at k1';cases k1';have hes':(es.modify (yR kk O l x) λe=>{ e with val:=Y})=es.modify (yR kk O l x) λe=>{ e with key:=e'.key,val:=Y}:=by
     apply atl;simp;simp[Array.getElem_modify];grind
    have:=xd hp h1 m2 m1 m3 (es.modify (yR kk O l x) λe=>{ e with val:=Y}) clk (l':=cy kk O l x y) (p':=none) (λl5 w' g=>by
     grind [aum.upd,fB]) (m5.modify λ_=>rfl) trivial
    have hfi:=Yr m5.1 k1;simp_all [Instr.entryStore,asInt,wl];grind
  |_=>rw[ho]at E;exact absurd E.symm V
 grind
end
section
variable {P:Program}{F:Nat->Prop}{own:Own}{w:World}
variable {k:Tag}{m:List k.T}{v:Value}
theorem atK.swap{V:List Nat}(h1:rR v=true)(Y:atJ F own w k m v V):∀ {l:List (List k.T)} {vs:List Value} {bs:List Nat} {i:Nat},atK F own w k l vs bs->i<l.length->bs.Nodup->V.Nodup->(∀ b∈bs,b ∉ V)->
  ∃ E,atK F own w k (l.set i m) (vs.set i v) E/\(∀ b∈E,b∈bs\/b∈V)/\E.Nodup
 |l::ls,u::vs,bs,0,⟨b1,b2,e,h0,h2,h3⟩,_,hn,hbn,hd=>by
  subst e;have O:=art.1 hn;refine⟨V++b2,⟨V,b2,rfl,h1,Y,h3⟩,λb W=>?_,art.2 ⟨hbn,O.2.1,λa X b W e=>hd b (aro _ W) (e▸X)⟩⟩;grind
 |l::ls,u::vs,bs,i+1,⟨b1,b2,e,h0,h2,h3⟩,hi,hn,hbn,hd=>by
  subst e;have O:=art.1 hn;obtain⟨E,q1,q2,q3⟩:=atK.swap h1 Y h3 (by simpa using hi) O.2.1 hbn λb W=>hd b (aro _ W);refine⟨b1++E,⟨b1,E,rfl,h0,h2,q1⟩,λb W=>?_,art.2 ⟨O.1,q3,λa X b W e=>?_⟩⟩ <;>grind
 | [],_,_,_,_,hi,_,_,_=>absurd hi (aru _)|_::_,[],_,_,h,_,_,_,_=>h.elim
theorem Step.fwd {h1:List Ob}{E:Own}{w1:World}(s:Step F own w h1 E w1){id nx:Nat}{hd0 hd':Hd}(hid:E id=some hd0)(hb:hd0.bs=[])(hnx:E nx=some hd')(hv:hd'.v=hd0.v)(h0:rR hd0.v=true)(hl:id<h1.length)(Y:own id≠none):
  Step F own w (cO h1 id (.fwd (some nx))) E w1:=by
 have V:∀ j,aq (cO h1 id (.fwd (some nx))) j=if id=j then .fwd (some nx)else aq h1 j:=λj=>dM ..;have X:(cO h1 id (.fwd (some nx))).length=h1.length:=by rw[cJ,if_pos hl]
 refine⟨s.hp.upd (at4.refl _ _ _) (λj=>j=id) XM (λj O=>⟨rfl,XN,λ_ _ _ _=>rfl⟩) (λj hd O e=>?_) (λj O _=>?_),s.fr,λj O hd=>?_⟩;grind
 subst O;refine⟨hd0,hid,?_⟩;rw[V,if_pos rfl];intro i e;grind;have W:id≠j:=λe=>Y (e▸O);rw[V,if_neg W]at hd;exact s.fresh j O hd
variable {h:List Ob}{t:TypeId}{ti:TI}{vx:Value}
theorem Wr(X:Hp F own w h){nx:Nat}(hn:auv own h nx)(ht:jZ P t=some ti){id E:Nat}{i:Int}{l:List (List k.T)}(hr:Rel F own w (.rp 1 id i 0) v)(hrx:Rel F own w (.os E) vx)(hne:id≠E)(hsz:ti.size=1)
  (ho:aq h id=.atH k l) (ho2:aq h E=.row k m):∃ l5 w',(Instr.storeAt t v vx).run P w=.ok () w'/\Step F own w (bu h [(id,.dead),(E,.dead),(nx,.atH k (l.set i.toNat m)),(id,.fwd (some nx))]) l5 w':=by
 cases hr with
 |rp h1 h2 h3=>
 rename_i n cap b o hd;obtain⟨O,g1,rfl,g2⟩:=i7 hrx;obtain⟨hd',e0,e⟩:=X.at ho rfl;rw[h1]at e0;cases e0;obtain⟨hd2',e0,hm⟩:=X.at ho2 rfl;rw[g1]at e0;cases e0;rcases e with⟨q,_⟩ | ⟨b',o',cap',cs,ty,bs,e1,e2,e3,e4,e5,e6,e7,e8,e9⟩;grind
 have e1':=e1;rw[h2]at e1;simp only[asd,aqd,as6]at e1;obtain⟨⟨rfl,rfl,_⟩,rfl,rfl⟩:=e1;obtain⟨Y,w',q1,W,q3,q4,q5⟩:=As (P:=P) ht hrx (xs:=[.os E]) rfl (by rw[hsz];rfl) (λj s V v hv=>by
  cases j with
  |zero=>simp at V;subst V;obtain⟨hd3,_,rfl,k2⟩:=i7 hv;exact nY k2
  |succ j=>simp at V) (off:=o+i.toNat) e4 (by simp;omega)
 have hnd:bs.Nodup/\b ∉ bs:=XN
 have hbb:b∈hd.bs:=XN
 have hdis:∀ c∈hd.bs,c ∉ O.bs:=λc hc hc2=>hne (X.inj id E hd O c h1 g1 hc hc2);have hnd2:O.bs.Nodup:=by rcases hm.blocks with e| ⟨c,e⟩ <;>rw[e] <;>simp
 have⟨bs',r1,r2,r3⟩:=e9.swap (i:=i.toNat) g2 hm h3 hnd.1 hnd2 (λc hc=>hdis c XN);have hb':b ∉ bs':=λhm=>by
  grind
 have hK:∀ id'∈[id,E],∃ hd,own id'=some hd:=XN
 have hKl:id<h.length:=X.dom _ _ h1;have hnk:nx ∉ [id,E]:=λhm=>by have⟨hd,e⟩:=hK nx hm;rw[hn.none]at e;cases e
 have hu:Y[o+i.toNat]? =some O.v:=by
  have⟨u,k1,k2⟩:=q4 (o+i.toNat) (aqb _) (by simp);have⟨hd3,k3,k4,_⟩:=i7 (k2 (.os E) (by simp));grind
 have st:=ml (w':=w') X hn [id,E] hK ⟨none,hd.v,hd.vs.set i.toNat O.v,b::bs'⟩ (.atH k (l.set i.toNat m)) (λc hc=>by
   grind)
  (λc _ hno=>W.other c λe=>hno ⟨id,by simp,hd,h1,e▸hbb⟩) (by rw[W.size];omega) W.os W.tape W.output
  (λl5 g=>.inr ⟨b,o,cap,Y,ty,bs',XN,rfl,aqQ.2 ⟨hb',r3⟩,W.here,XM,XN,XN,λj u V=>by
    rw[arT]at V;grind,r1.carry g.at7 λc hc=>W.other c λe=>hb' (e▸hc)⟩)
 have hmv:=lj nx (.atH k (l.set i.toNat m)) [id,E] h 0 hnk (λj V=>by have⟨hd,e⟩:=hK j V;exact X.dom _ _ e);have:=st.fwd (id:=id) (nx:=nx) (hd0:= { hd with bs:=[]}) (hd':=⟨none,hd.v,hd.vs.set i.toNat O.v,b::bs'⟩) (by grind [Own.move]) rfl (by simp[Own.move]) rfl (by rw[h2];rfl) (aqi hKl hmv.2.1) (by rw[h1];simp);exact⟨_,w',XN,this⟩
def HD {k:Tag}(a:Option Addr):∀ n:Nat,atK F own w k (List.replicate n []) (List.replicate n (.slice a 0 0)) []
 |0=>rfl|n+1=>⟨[],[],rfl,rfl,.inl ⟨a,rfl,rfl,rfl⟩,HD a n⟩
variable {r:OR}
theorem aco(hp:Hp F own w h){nx:Nat}(hn:auv own h nx){te tr:TI}(ht:jZ P t=some ti)(Y:jZ P ti.elem=some te)(hsl:ti.isSlice=true){sl sc:SV}{vl vc:Value}(hrl:Rel F own w sl vl)(hrc:Rel F own w sc vc)(O:Nf nx te tr sl sc=r)(hne:r≠ .bad):
  Fc F own w h ((Instr.makeSlice t vl vc).run P w) r:=by
 obtain⟨i,d,z,hi,hd,hz,hq,rfl⟩:=bY ht;have⟨ie,de,ze,hie,hde,hze,hqe,hte'⟩:=bY Y;cases d <;>simp[eD]at hsl;rename_i e;unfold Nf at O;split at O
 ·rename_i n c;have el:=cV hrl;have ec:=cV hrc;subst el;subst ec;unfold ab6 at O;split at O
  ·cases E:Nat.beq te.size 1&&ab5 te.zero&&Nat.ble 1 te.bytes with
   |false=>grind
   |true=>
   rw[E]at O;subst O;simp[ap9]at E;have hes:te.size=ie.size:=by rw[hte'];rfl
   have heb:te.bytes=ie.bytes:=by rw[hte'];rfl
   have hez:te.zero=svs ze:=by simp_all [eD]
   have t1:ie.size=1:=by simp_all
   have hzc:ze.cells= #[.slice none 0 0]:=by
    have:=E.1.2;rw[hez]at this;unfold ab5 at this;split at this
    rename_i q;unfold svs at q;have q2:ze.cells.toList=[.slice none 0 0]:=by
     simp_all
    grind
    cases this
   refine⟨_,_,_,_,rfl,λ⟨X,W,hc3⟩ =>?_⟩;subst X;have hby:1<=ie.bytes:=by simp_all
   have hnb:n<=n*(ie.bytes:Int):=by
    have:n*1<=n*(ie.bytes:Int):=arf XM W;omega
   have hnm:n<=(aD:Int):=by grind [dh,aD]
   refine⟨hnm,?_⟩;have V:=run_make (P:=P) w t e ie ze hd hie hze .i64 .i64 n n W (aqO _) (by grind [dh]) (by grind [aD]);refine⟨_,_,_,V,Rel.os (F:=F) (id:=nx) (hd:=⟨none,.slice (some ⟨w.heap.size,0,none⟩) n.toNat n.toNat,List.replicate n.toNat (.slice none 0 0),[w.heap.size]⟩) (Own.atQ _ _ _) rfl,w8 hp hn (w1:=w) ⟨rfl,rfl,rfl,rfl⟩ _ _ _ rfl λl5 g=>.inr ⟨w.heap.size,0,n.toNat,_,e,[],by simp,rfl,by simp,lW _ _,?_,by simp,by simp;omega,λq x hx=>?_,HD none _⟩⟩;grind [size_madeCells]
   have hql:q<n.toNat:=XN
   simp_all [madeCells,Nat.mod_one]
  grind
 grind
theorem Ws(hp:Hp F own w h){nx:Nat}(hn:auv own h nx)(ht:jZ P t=some ti){s Y:SV}(hr:Rel F own w s v)(X:Rel F own w Y vx)
  (E:u9 ti.size nx h s Y=r) (W:r≠ .bad):∃ ups l5 w',r=.eff True True ups .any/\(Instr.storeAt t v vx).run P w=.ok () w'/\Step F own w (bu h ups) l5 w':=by
 have old:t6 ti.size h s (rI Y)=r->∃ ups l5 w',r=.eff True True ups .any/\(Instr.storeAt t v vx).run P w=.ok () w'/\Step F own w (bu h ups) l5 w':=λE=>by
  have⟨ups,e,w',e1,e2⟩:=Wm (P:=P) hp ht hr X E W;grind
 unfold u9 at E;split at E
 rename_i sz id i off V;cases hg:Na (aq h id)with
 |false=>grind
 |true=>
  cases hc:Nat.beq ti.size 1&&Nat.beq sz 1&&Nat.beq off 0&& !(Nat.beq id V)with
  |false=>grind
  |true=>
   rw[hc]at E;simp only[ap9]at hc;have c1:=ap_ hc.1.1.1;have c2:=ap_ hc.1.1.2;have c3:=ap_ hc.1.2;have c4:id≠V:=λe=>by simp_all
   subst c2;subst c3;cases ho:aq h id with
   |atH k l=>
    rw[ho]at E;simp[G_]at E;cases O:aq h V with
    |row k' m'=>
     rw[O]at E;simp[G9]at E;split at E
     rename_i ek;subst ek;have⟨l5,w',e1,e2⟩:=Wr (P:=P) hp hn ht hr X c4 c1 ho O;exact⟨_,l5,w',E.symm,e1,e2⟩;exact absurd E.symm W
    |_=>rw[O]at E;exact absurd E.symm W
   |_=>rw[ho]at hg;cases hg
 grind
theorem HE{l:List k.T}{lo hi:Int}(h:hi.toNat<=l.length):(zq k l lo hi).length=l.length:=by
 grind [zq]
theorem Kt {z:Array Value}{n i:Nat}(h:i<n*z.size):(Builtin.zeroCells z n)[i]? =some (z[i % z.size]!):=by
 simp[Builtin.zeroCells,h]
theorem acp(hp:Hp F own w h){te:TI}(ht:jZ P t=some ti)(hte:jZ P ti.elem=some te){l:List SV}{vs:Array Value}(hl:atP F own w l vs)(V:Bx ti te h l=r)(hne:r≠ .bad)(ty:TypeId):
  Fc F own w h ((Builtin.clear_ #[t] ty vs).run P w) r:=by
 obtain⟨i,d,z,hi,hd,hz,hq,rfl⟩:=bY ht;obtain⟨ie,de,X,hie,hde,hze,hqe,hte'⟩:=bY hte;unfold Bx at V;split at V
 ·rename_i s id lo E;obtain⟨vs⟩:=vs;have hsz:=hl.1;match vs,hsz with
  | [v0],_=>
  have hr:Rel F own w (.vw s id lo E) v0:=hl.2 0 _ rfl;cases hsl:(eD P t i d).isSlice with
  |false=>grind
  |true=>
  rw[hsl]at V;simp only[cond_true]at V;cases d <;>simp[eD]at hsl;rename_i e;simp only[eD]at hie;cases hr with
  | @vw _ _ cap _ _ hd' a h1 h2 hcap3=>
  cases ho:aq h id with
  |row k m=>
   rw[ho]at V;simp only[afq]at V;cases hc:Nat.beq s (ae k)&&Uu k te.tag with
   |false=>grind
   |true=>
    rw[hc]at V;simp only[cond_true]at V;subst V;rw[ap9]at hc;have hs:=ap_ hc.1;have W:te.tag=some k:=by
     cases hq:te.tag with
     |none=>grind [Uu]|some b=>rw[hq]at hc;rw[w_ (k:=k) (k':=b) hc.2]
    have auX:Ba P e ie=some k:=by rw[hte']at W;exact W
    obtain⟨t1,t2,t3,t4⟩:=Cz (F:=F) (own:=own) (w:=w) auX;have Y:=(t4 X hze).1;have hzs:X.cells.size=ae k:=by rw[Y.1,cb]
    have hzv:(zeroValue e).run P w=.ok X w:=by simp[zeroValue,typeInfo,hie,hze]
    obtain⟨hdd,e0,O⟩:=hp.at ho rfl;rw[h1]at e0;cases e0;have O:atJ F own w k m hd'.v hd'.bs:=O;refine⟨_,_,_,_,rfl,λ_=>⟨trivial,.tuple #[],own,?_⟩⟩;simp only[bu];by_cases hlt:E.toNat<=lo.toNat
    have hn0:E.toNat - lo.toNat=0:=XM
    refine⟨w,?_,.any _,?_⟩;rw[hn0];cases a <;>simp[Builtin.clear_,run_underlying hd];rw[zq,if_pos hlt];exact LK hp h1 _ O;obtain⟨b,o,n,cap',e1,e2,e3⟩:=h2.resolve_left hlt;subst e3;rcases O with⟨a',q1,rfl,q2⟩ | ⟨b',o',cap2,cs,ty2,q1,q2,q3,q4,q5,q6,q7⟩;grind
    rw[e1]at q1;simp only[asd,aqd,as6]at q1;obtain⟨⟨rfl,rfl,_⟩,rfl,rfl⟩:=q1;subst hs;have hN:(E.toNat - lo.toNat)≠0:=XM
    obtain⟨N,hN'⟩:∃ N,E.toNat - lo.toNat=N+1:=⟨E.toNat - lo.toNat - 1,XM⟩;have hmul:lo.toNat*ae k+(E.toNat - lo.toNat)*ae k<=cap'*ae k:=by
     rw[<-asB];exact aqm _ XM
    have hzc:(Builtin.zeroCells X.cells (E.toNat - lo.toNat)).toList.length=(E.toNat - lo.toNat)*ae k:=by rw[Array.length_toList,t8,hzs]
    have hone:∀ v∈(Builtin.zeroCells X.cells (E.toNat - lo.toNat)).toList,v.oneCell'=true:=λv hv=>by
     have hm:v∈X.cells:=by
      simp only[Builtin.zeroCells]at hv;simp at hv;have⟨w9,hv1,hv2⟩:=hv;have hpos:0<X.cells.size:=by
       grind
      have:=ar8 w9 hpos;grind
     obtain⟨j,hj,rfl⟩:=asX hm;have hjl:j< (cellsOf k (eT k)).length:=by rw[<-Y.1];exact hj
     have:=Y.2 j _ (aqf hjl);have h9:=Np (aqf hjl) this;rw[aqC,arE hj]at h9;exact nY h9
    obtain⟨cs',w',p1,p2,p3,p4⟩:=kL (P:=P) (b:=b) (o:=o+lo.toNat*ae k) (ty:=ty2) (Builtin.zeroCells X.cells (E.toNat - lo.toNat)).toList 0 w cs q3 XM hone;refine⟨w',?_,.any _,rS hp h1 (b:=b) (by rw[q2];simp) p2.size p2.other p2.os p2.tape p2.output _ λg=>.inr ⟨b,o,cap',cs',ty2,?_,q2,p2.here,XM,?_,?_,?_⟩⟩;simp_all [Builtin.clear_,run_underlying];grind [HE]
    grind [HE]
    grind [HE]
    intro q x hx j s hj;rw[zq,if_neg hlt]at hx;have hjl:j<ae k:=by grind [cb]
    rw[p4,hzc];have hql:q<m.length:=by
     grind
    by_cases hin:lo.toNat<=q/\q<E.toNat
    have hx':x=eT k:=by
     grind [List.getElem?_append_left]
    subst hx';have hlow:lo.toNat*ae k<=q*ae k:=aqm _ hin.1;have hup:q*ae k+ae k<=E.toNat*ae k:=by rw[<-asO];exact aqm _ hin.2
    have hsub:(E.toNat - lo.toNat)*ae k=E.toNat*ae k - lo.toNat*ae k:=atm _ _ _;rw[if_pos XM];refine⟨X.cells.getD j undef,?_,(Y.2 j s hj).mono g⟩;have hidx:o+q*ae k+j - (o+lo.toNat*ae k+0)=(q - lo.toNat)*ae k+j:=by rw[atm];omega
    have hmod:((q - lo.toNat)*ae k+j) % ae k=j:=by rw[Nat.mul_comm,Nat.mul_add_mod,asG hjl]
    have:=Kt (z:=X.cells) (n:=E.toNat - lo.toNat) (i:=(q - lo.toNat)*ae k+j) XN;simp_all;rw[if_neg (by
     rintro⟨a1,a2⟩;apply hin;rw[atm]at a2;refine⟨?_,?_⟩;apply aqH;intro hc;have:(q+1)*ae k<=lo.toNat*ae k:=aqm _ XM;grind
     apply aqH;intro hc;have h5:E.toNat*ae k<=q*ae k:=aqm _ XM;omega)]
    have hx2:m[q]? =some x:=by
     by_cases h0:q<lo.toNat
     grind
     rw[arV (by simp;omega),asu]at hx;grind
    have⟨u,u1,u2⟩:=q7 q x hx2 j s hj;exact⟨u,u1,u2.mono g⟩
  |_=>rw[ho]at V;exact absurd V.symm hne
 grind
end
end Go.Sx
end
section
namespace Go.Sx
variable {P:Program}
variable {since clock:Nat}{seen:Array Nat}{es:Array MapEntry}
theorem Nx{w:World}{ty:TypeId}{b bm c0:Nat}(X:w.heap[b]? =some (.mapIter (some bm) since seen c0))(hm:w.heap[bm]? =some (.map es clock))(E:∀ x∈es.toList,x.born<since)(V:since<=c0):
  ((leftOf es seen).size=0/\(Instr.next (.pointer (some ⟨b,0,none⟩)) false ty).run P w=.ok (.tuple #[.bool false]) w)\/
  ∃ e∈(leftOf es seen).toList,∃ w1:World,(w1=w\/w1=w.drew)/\(Instr.next (.pointer (some ⟨b,0,none⟩)) false ty).run P w=.ok (.tuple #[.bool true,e.key,e.val]) { w1 with heap:=w1.heap.setIfInBounds b (.mapIter (some bm) since (seen.push e.born) clock)}:=by
 simp only[Instr.next,getObj,aqF,Sem.run,X,hm,Result.andThen,next_test_false seen es since c0 E V];unfold leftOf;have O:∀ x∈(Array.filter (λe=>!seen.contains e.born) es).toList,x.born<since:=λx hx=>E x XN;generalize Array.filter (λe=>!seen.contains e.born) es=L at O |-;have e1:L.filter (λx=>decide (x.born<since))=L:=Array.filter_eq_self.2 (λx hx=>XN);have e2:L.filter (λx=>decide (x.born>=since))= #[]:=by
  simp_all
 simp only[e1,e2];by_cases h0:L.size=0
 simp_all [Question.forced];right;have W:∃ (j:Nat) (w1:World),j<L.size/\(w1=w\/w1=w.drew)/\(choose (Question.mapNext L.size)).run P w=.ok j w1:=by
  by_cases Y:L.size<=1
  exact⟨0,w,XM,.inl rfl,by simp[Question.forced,Y]⟩;exact⟨_,w.drew,ar8 _ XM,.inr rfl,by
   simp[choose,Sem.run,Question.forced,Y];rfl⟩
 have⟨j,w1,hj,hal,hrun⟩:=W;have hb1:w1.heap[b]? =some (.mapIter (some bm) since seen c0):=by
  rcases hal with rfl|rfl;exact X;exact X
 refine⟨L[j],by simp,w1,hal,?_⟩;simp_all [setObj,Sem.run]
theorem Ku{w:World}{b bm:Nat}{e:MapEntry}(V:w.heap[b]? =some (.mapIter (some bm) since (seen.push e.born) clock))(W:w.heap[bm]? =some (.map es clock))(O:e∈es.toList)(hn:(es.toList.map (·.born)).Nodup):
  (Instr.entry (.pointer (some ⟨b,0,none⟩))).run P w=.ok (.tuple #[e.key,e.val]) w:=by
 have E:es.find? (·.born==e.born)=some e:=by rw[<-Array.find?_toList];exact find_born e es.toList hn O
 simp only[Instr.entry,getObj,aqF,Sem.run,V,W,Result.andThen,Array.back?_push,bne_self_eq_false,E];rfl
end Go.Sx
end
section
namespace Go.Sx
open Go.RowKit
section
variable {P:Program}{F:Nat->Prop}{own:Own}{w:World}{ts:Tis}
def Wt (v:Value)(vs:Array Value):Sem Next:=do
 let d <-Deferred.ofValue v vs
 invoke d.target d.args
variable {t:TypeId}
theorem FO(w:World)(m:Nat){e:TypeId}(E:Option Addr)(n c:Nat)(hd:P.underlying t=some (.slice e)):(Op.equalIn (m+1) t (.slice E n c) (.slice none 0 0)).run P w=.ok E.isNone w:=by
 cases E <;>simp[Op.equalIn,run_underlying hd]
def S3 (P:Program)(F:Nat->Prop)(own:Own)(w:World)(h:List Ob)(run:Result Next):OR->Prop
 | .val s=>∃ u,run=.ok (.value u) w/\Rel F own w s u| .chk c s=>c->∃ u,run=.ok (.value u) w/\Rel F own w s u| .asm c s=>c/\∃ u,run=.ok (.value u) w/\Rel F own w s u| .auh s=>∃ u cs ty,run=.ok (.value u) (w.alloc (.cells cs ty))/\Rel F own (w.alloc (.cells cs ty)) s u| .eff c a ups s=>c->a/\∃ u l5 w',(run=.ok (.value u) w'\/(run=.ok .skip w'/\u=undef))/\Rel F l5 w' s u/\Step F own w (bu h ups) l5 w'| .call f args=>∃ vs:Array Value,atP F own w args vs/\run=(callFunc f vs).run P w| .yld id args=>∃ hd,own id=some hd/\∃ vs,atP F own w args vs/\run=(Wt hd.v vs).run P w| .nxt id=>∃ hd b,own id=some hd/\hd.p=some b/\∃ ty,∀ u w',(Instr.next (.pointer (some ⟨b,0,none⟩)) false ty).run P w=.ok u w'->run=.ok (.value u) w'| .amb p=>∃ b,p b/\run=.ok (.value (.bool b)) w| .pan x=>run=.halt (.panic x) w| .bad=>True
theorem P8 {cx:Cx}{a:Act}(E:∀ x,Rel F own w (val cx x) (a.eval x)):∀ (l:List Operand),(dE cx l).length=l.length/\∀ (j:Nat) (s:SV),(dE cx l)[j]? =some s->∃ x,l[j]? =some x/\Rel F own w s (a.eval x)
 | [] =>⟨rfl,λj s h=>by simp[dE]at h⟩
 |x::r=>by
  have⟨h1,h2⟩:=P8 E r;grind [dE]
theorem xe {cx:Cx}{a:Act}(E:∀ x,Rel F own w (val cx x) (a.eval x))(l:Array Operand):atP F own w (dE cx l.toList) (l.map a.eval):=by
 have⟨h1,h2⟩:=P8 E l.toList;refine⟨by simp[h1],λj s O=>?_⟩;simp_all <;>grind
theorem DU {cx:Cx}{a:Act}(E:∀ x,Rel F own w (val cx x) (a.eval x)):∀ (l:List (Nat×Operand)),(j5 cx l).map (·.1)=(l.map λ(i,x) =>(i,a.eval x)).map (·.1)/\
  ∀ (j:Nat) (x:Nat×SV) (y:Nat×Value),(j5 cx l)[j]? =some x->(l.map λ(i,x) =>(i,a.eval x))[j]? =some y->Rel F own w x.2 y.2
 | [] =>⟨rfl,λj x y h=>XN⟩
 |(i,x)::r=>by
  have⟨h1,h2⟩:=DU E r;grind [j5]
variable {r:OR}
theorem cq{k:TI->OR}(E:ts.ok P)(h:aR ts t k=r)(hr:r≠ .bad):∃ ti,jZ P t=some ti/\k ti=r:=by
 unfold aR at h;cases O:ts t with
 |none=>grind|some i=>simp[O]at h;exact⟨i,E t i O,h⟩
variable {h:List Ob}
theorem aww{E:Result Next}(O:r≠ .bad->S3 P F own w h E r):S3 P F own w h E r:=by
 cases r with
 |bad=>trivial
 |_=>exact O (by simp)
theorem awP {s:Sem Value}{u:Value}(h:s.run P w=.ok u w):(do pure (Next.value (<-s)):Sem Next).run P w=.ok (.value u) w:=by
 simp[h]
variable {a:Operand}
theorem P9(h:G6 a=true):a=.const (.bool true):=by
 grind [G6]
theorem Ny(h:Ci a=true):a=.const (.bool false):=by
 grind [Ci]
theorem p8{x:Option SV}(h:w5 x=r)(hr:r≠ .bad):∃ s,x=some s/\r=.val s:=by
 cases x with
 |none=>exact absurd h.symm hr|some s=>exact⟨s,rfl,h.symm⟩
theorem xf{s:Sem Value}(E:Fc F own w h (s.run P w) r):S3 P F own w h ((do pure (Next.value (<-s)):Sem Next).run P w) r:=by
 obtain⟨c,a,ups,O,rfl,h1⟩:=E;intro hc;have⟨ha,u,l5,w',h2,h3,h4⟩:=h1 hc;simp_all
theorem P_{ti:TI}{s:SV}(e:uk ti h s=r)(hr:r≠ .bad):∃ s',r=.val s':=by
 have V:∀ {a:Bool} {n off:Nat} {o:Ob},Ck a n off o=r->∃ s',r=.val s':=by
  intro a n off o e;unfold Ck at e;split at e
  have⟨s',_,h'⟩:=p8 e hr;grind;grind
 have O:∀ {a:Bool} {n z id off:Nat} {i:Int} {o:Ob},G8 a n z id i off o=r->∃ s',r=.val s':=by
  intro a n z id off i o e;unfold G8 at e;split at e
  rename_i k l;cases W:Nat.beq z (ae k)with
  |false=>grind|true=>rw[W]at e;have⟨s',_,h'⟩:=p8 e hr;grind
  grind
  grind
 have E:∀ {a:Bool} {n z off:Nat} {i j:Int} {o:Ob},DJ a n z i j off o=r->∃ s',r=.val s':=by
  intro a n z off i j o e;unfold DJ at e;split at e
  rename_i k l;cases W:Nat.beq z (ae k)with
  |false=>grind|true=>rw[W]at e;have⟨s',_,h'⟩:=p8 e hr;grind
  grind
 unfold uk at e;split at e
 grind
 have⟨s',_,h'⟩:=p8 e hr;grind;exact O e;exact E e;grind
theorem S4{n:Nat}{s:SV}(e:DK n s=r)(hr:r≠ .bad):∃ s',r=.val s':=by
 unfold DK at e;grind
theorem CE {cx:Cx}{a:Act}(E:∀ x,Rel F own w (val cx x) (a.eval x))(o:Option Operand):(∀ s,qA cx o=some s->∃ u,o.map a.eval=some u/\Rel F own w s u)/\(qA cx o=none->o.map a.eval=none):=by
 cases o with
 |none=>grind [qA]|some x=>grind [qA]
variable {l:List SV}
def UJ(O:Hp F own w h){nx:Nat}(hn:auv own h nx){v:Value}{ty:TypeId}(E:atP F own w l v.cells):Step F own w (bu h [(nx,Ob.cells l)]) (own.set nx ⟨some w.heap.size,undef,[],[w.heap.size]⟩) (w.alloc (.cells v.cells ty))/\Rel F (own.set nx ⟨some w.heap.size,undef,[],[w.heap.size]⟩) (w.alloc (.cells v.cells ty)) (.ptr nx 0) (.pointer (some ⟨w.heap.size,0,none⟩)):=
 ⟨w8 O hn (w1:=w) ⟨rfl,rfl,rfl,rfl⟩ (.cells v.cells ty) (.cells l) _ rfl λl5 g=>⟨w.heap.size,v.cells,ty,rfl,rfl,lW _ _,E.1,λj s V=>(E.2 j s V).mono g⟩,.ptr (Own.atQ _ _ _) rfl⟩
theorem atP.app{m:List SV}{O vs:Array Value}(h1:atP F own w l O)(h2:atP F own w m vs):atP F own w (l++m) (O++vs):=by
 refine⟨by simp[h1.1,h2.1],λj s E=>?_⟩;rw[aq7]at E;split at E
 rename_i hlt;rw[wn (j:=j) (ws:=O) (by rw[aqv (by rw[h1.1];exact hlt)])];exact h1.2 j s E;rw[wn (j:=j - O.size) (ws:=vs) (by rw[arw (by rw[h1.1];omega)])];rw[h1.1];exact h2.2 _ s E
theorem S5{ops:List Oper}{g:Option (Nat×Bool)}{t:List (Nat×SV)}{nx:Nat}(E:ts.ok P)(hp:Hp F own w h)(hn:auv own h nx){a:Act}{o:Oper}
  (X:∀ x,Rel F own w (val ⟨ts,ops,g,⟨t,h⟩,nx⟩ x) (a.eval x))
  (hpk:∀ c x y,o.op=.pick c x y->(a.eval c=.bool true->Rel F own w (lV ops g c true (raw t x)) (a.eval x))/\(a.eval c=.bool false->Rel F own w (lV ops g c false (raw t y)) (a.eval y))):
  S3 P F own w h ((execOp a.eval o).run P w) (opS ⟨ts,ops,g,⟨t,h⟩,nx⟩ o.op):=by
 obtain⟨dst,op,ty,pos,after,guard⟩:=o;simp only at hpk |-;refine aww λhr=>?_;generalize he:opS ⟨ts,ops,g,⟨t,h⟩,nx⟩ op=r at hr |-;cases op with
 |move x=>subst he;exact⟨_,rfl,X x⟩|assign x=>subst he;exact⟨_,rfl,X x⟩
 |pick c x y=>
  have hc:Rel F own w (bJ ops g (raw t c)) (a.eval c):=X c;change G7 x y (bJ ops g (raw t c)) (lV ops g c true (raw t x)) (lV ops g c false (raw t y))=r at he;unfold G7 at he;split at he
  rename_i sx sy sz bc bx bz hsc hsx hsy;rw[hsc]at hc;have hec:=cV hc;have W:(execOp a.eval { dst:=dst,op:=.pick c x y,type:=ty,pos:=pos,after:=after,guard:=guard}).run P w=.ok (.value (if bc then a.eval x else a.eval y)) w:=by
   simp[execOp,hec,asBool]
  cases hx:G6 x with
  |true=>
   simp[hx]at he;subst he;refine⟨_,W,?_⟩;have hx':=P9 hx;cases bc with
   |true=>simp[hx'];exact .v _|false=>grind
  |false=>
   cases hy:Ci y with
   |true=>
    simp[hx,hy]at he;subst he;refine⟨_,W,?_⟩;have hy':=Ny hy;cases bc with
    |true=>grind|false=>rw[hy'];exact .v _
   |false=>grind
  rename_i sx sy sz bc bz hsc hsx hsy;rw[hsc]at hc;have hec:=cV hc;subst he;intro hcf;simp_all [execOp,asBool];rename_i sx sy sz bc bx hsc hsx hsy;rw[hsc]at hc;have hec:=cV hc;subst he;intro hcf;simp_all [execOp,asBool];grind
 |alloc V=>
  have⟨ti,Y,he⟩:=cq (k:=λti=>Nb nx (some ti.zero)) E he hr;subst he;obtain⟨i,d,z,hi,hd,hz,hq,rfl⟩:=bY Y;have hzz:(eD P V i d).zero=svs z:=by simp[eD,hz]
  intro _;have⟨q1,q2⟩:=UJ (ty:=V) hp hn (l:=svs z) (v:=z) (Ar z);rw[hzz];exact⟨trivial,_,_,_,.inl (by simp[execOp,Instr.alloc,zeroValue,typeInfo,hi,hz,newVar,newRow]),q2,q1⟩
 |box V x=>
  change Nb nx (rI (val _ x))=r at he;cases hf:rI (val ⟨ts,ops,g,⟨t,h⟩,nx⟩ x)with
  |none=>rw[hf]at he;exact absurd he.symm hr
  |some l=>
   rw[hf]at he;subst he;intro _;have⟨q1,q2⟩:=UJ (ty:=V) hp hn (v:=a.eval x) (Hr (X x) hf);exact⟨trivial,_,_,_,.inl (by rfl),q2,q1⟩
 |build V O=>
  have⟨ti,Y,he⟩:=cq (k:=λti=>bif ti.auj then aR ts ti.elem λte=>SB (mY (λi=>some (i*te.size,te.size)) ti.zero (j5 ⟨ts,ops,g,⟨t,h⟩,nx⟩ O.toList))
   else bif ti.agg then SB (mY (λi=>(nth ti.fields i).map λf:Nat×Nat×Bool=>(f.1,f.2.1)) ti.zero (j5 ⟨ts,ops,g,⟨t,h⟩,nx⟩ O.toList))else .bad) E he hr
  have⟨p1,p2⟩:=DU X O.toList;have W:(execOp a.eval { dst:=dst,op:=.build V O,type:=ty,pos:=pos,after:=after,guard:=guard})=(do pure (Next.value (<-Instr.build V (O.map λ(i,x) =>(i,a.eval x))))):=rfl;have key:∃ l,r=.val (.agg l)/\((ti.auj=true/\∃ te,jZ P ti.elem=some te/\mY (λi=>some (i*te.size,te.size)) ti.zero (j5 ⟨ts,ops,g,⟨t,h⟩,nx⟩ O.toList)=some l)\/
     (ti.auj=false/\ti.agg=true/\mY (λi=>(nth ti.fields i).map λf=>(f.1,f.2.1)) ti.zero (j5 ⟨ts,ops,g,⟨t,h⟩,nx⟩ O.toList)=some l)):=by
   cases ha:ti.auj with
   |true=>
    simp[ha]at he;have⟨te,hte,he⟩:=cq E he hr;cases hf:mY (λi=>some (i*te.size,te.size)) ti.zero (j5 ⟨ts,ops,g,⟨t,h⟩,nx⟩ O.toList)with
    |none=>simp[hf]at he;exact absurd he.symm hr|some l=>simp[hf]at he;exact⟨l,he.symm,.inl ⟨rfl,te,hte,hf⟩⟩
   |false=>
    cases hg:ti.agg with
    |false=>grind
    |true=>
     simp[ha,hg]at he;cases hf:mY (λi=>(nth ti.fields i).map λf=>(f.1,f.2.1)) ti.zero (j5 ⟨ts,ops,g,⟨t,h⟩,nx⟩ O.toList)with
     |none=>simp[hf]at he;exact absurd he.symm hr|some l=>simp[hf]at he;exact⟨l,he.symm,.inr ⟨rfl,rfl,rfl⟩⟩
  obtain⟨l,rfl,hcase⟩:=key;obtain⟨u,e1,e2⟩:=Yi (P:=P) Y (vps:=O.map λ(i,x) =>(i,a.eval x)) (by simpa using p1) (by simpa using p2) hcase;exact⟨u,by simp_all,e2⟩
 |buildSlice V n O=>
  have⟨ti,Y,he⟩:=cq (k:=λti=>aR ts ti.elem λte=>PB (SD V ops g) nx te (bsS ti te n (j5 ⟨ts,ops,g,⟨t,h⟩,nx⟩ O.toList))) E he hr;have⟨te,hte,he⟩:=cq (k:=λte=>PB (SD V ops g) nx te (bsS ti te n (j5 ⟨ts,ops,g,⟨t,h⟩,nx⟩ O.toList))) E he hr;have⟨p1,p2⟩:=DU X O.toList;have hne:bsS ti te n (j5 ⟨ts,ops,g,⟨t,h⟩,nx⟩ O.toList)≠ .bad:=λe=>by rw[e]at he;exact hr he.symm
  have⟨s,cs,ty2,u,hs0,e1,e2,e3⟩:=afz (P:=P) hp Y hte (n:=n) (vps:=O.map λ(i,x) =>(i,a.eval x)) (by simpa using p1) XN rfl hne;rw[hs0]at he;have plain:r=.auh s->S3 P F own w h ((execOp a.eval ⟨dst,.buildSlice V n O,ty,pos,after,guard⟩).run P w) r:=λe=>by
   subst e;exact⟨u,cs,ty2,by simp[execOp,e1],e2⟩
  cases s with
  |rs k xs=>
   change (bif(te.agg||one xs)&&noG (SD V ops g)then OR.eff True True [(nx,.row k xs)] (.os nx)else .auh (.rs k xs))=r at he;cases hb:(te.agg||one xs)&&noG (SD V ops g)with
   |false=>grind
   |true=>
    rw[hb]at he;subst he;have⟨m1,m2,m3,m4⟩:=e3 k xs rfl;refine λ_=>⟨trivial,u,own.set nx ⟨none,.slice (some ⟨w.heap.size,0,none⟩) xs.length xs.length,[],[w.heap.size]⟩,w.alloc (.cells cs ty2),.inl (by simp[execOp,e1]),?_,?_⟩;rw[m1];exact Rel.os (F:=F) (id:=nx) (hd:=⟨none,.slice (some ⟨w.heap.size,0,none⟩) xs.length xs.length,[],[w.heap.size]⟩) (Own.atQ _ _ _) rfl;exact w8 hp hn (w1:=w) ⟨rfl,rfl,rfl,rfl⟩ _ _ _ rfl λl5 g=>.inr ⟨w.heap.size,0,xs.length,cs,ty2,rfl,rfl,lW _ _,XM,aqb _,m3,λq x hx j s hj=>by
     have⟨u',h1,h2⟩:=m4 q x hx j s hj;exact⟨u',h1,h2.mono g⟩⟩
  |_=>exact plain he.symm
 |load V x=>
  have⟨ti,Y,he⟩:=cq (k:=λti=>uk ti h (val ⟨ts,ops,g,⟨t,h⟩,nx⟩ x)) E he hr;obtain⟨s',rfl⟩:=P_ he hr;have⟨u,e1,e2⟩:=PO (P:=P) hp Y (X x) he;exact⟨u,by simp_all [execOp],e2⟩
 |store V x y=>
  have⟨ti,Y,he⟩:=cq (k:=λti=>u9 ti.size nx h (val ⟨ts,ops,g,⟨t,h⟩,nx⟩ x) (val ⟨ts,ops,g,⟨t,h⟩,nx⟩ y)) E he hr;obtain⟨ups,l5,w',rfl,e1,e2⟩:=Ws (P:=P) hp hn Y (X x) (X y) he hr;exact λ_=>⟨trivial,undef,l5,w',.inr ⟨by simp[execOp,e1],rfl⟩,.any _,e2⟩
 |nilCheck x=>
  have hx:=X x;change XT (val _ x)=r at he;generalize hvx:a.eval x=vx at hx;unfold XT at he;split at he
  rename_i id off hs;subst he;rw[hs]at hx;cases hx with
  |ptr q1 q2=>exact⟨_,by simp[execOp,hvx],.ptr q1 q2⟩
  rename_i l off hs;subst he;rw[hs]at hx;cases hx with
  |ep cf q1 q2=>exact⟨_,by simp[execOp,hvx],.ep cf q1 q2⟩
  rename_i hs;subst he;rw[hs]at hx;cases hx with
  |rp q1 q2 q3=>exact⟨_,by simp[execOp,hvx],.rp q1 q2 q3⟩
  rename_i hs;subst he;rw[hs]at hx;cases hx with
  |gp q1 q2 q3=>exact⟨_,by simp[execOp,hvx],.gp q1 q2 q3⟩
  rename_i f first caps hs
  subst he;rw[hs]at hx;cases hx with
  |fn q1 q2 q3 q4=>exact⟨_,by simp[execOp,hvx],.fn q1 q2 q3 q4⟩
  grind
 |binOp op xt x y yt=>
  change M9 ts op xt (val _ x) (val _ y)=r at he;have hx:=X x;have hy:=X y;generalize val ⟨ts,ops,g,⟨t,h⟩,nx⟩ x=sx at hx he;generalize val ⟨ts,ops,g,⟨t,h⟩,nx⟩ y=sy at hy he;have W:∀ {vx vy:Value},a.eval x=vx->a.eval y=vy->(eqGuard op xt x y vx vy).run P w=.ok () w->∀ u,(Go.binOp op xt vx vy).run P w=.ok u w->(execOp a.eval { dst:=dst,op:=.binOp op xt x y yt,type:=ty,pos:=pos,after:=after,guard:=guard}).run P w=.ok (.value u) w:=by
   simp_all [execOp]
  unfold M9 at he;split at he
  have⟨hsk,h3⟩:=SJ he hr;have ex:=cV hx;have ey:=cV hy;cases r with
  |val s=>
   obtain⟨u,e1,rfl⟩:=We (P:=P) (w:=w) (ty:=xt) hsk h3.symm;exact⟨u,W ex ey (E9 ..) u e1,.v u⟩
  |chk c s=>
   intro hc;obtain⟨u,e1,rfl⟩:=Wf (P:=P) (w:=w) (ty:=xt) hsk h3.symm hc;exact⟨u,W ex ey (E9 ..) u e1,.v u⟩
  |bad=>grind|_=>exfalso;cases op <;>simp[wZ]at h3
  obtain⟨ti,Y,he⟩:=cq (k:=λti=>eqS op ti sx sy) E he hr;obtain⟨i,d,z,hi,hd,hz,hq,rfl⟩:=bY Y;unfold eqS at he;split at he
  rename_i l _ _;have ey:=cV hy;cases hb:(eD P xt i d).isSlice with
  |false=>grind
  |true=>
   rw[hb]at he;have hds:∃ e,d=.slice e:=by cases d <;>simp[eD]at hb;grind
   have hg:∀ (ad:Option Addr) (n c:Nat),(eqGuard op xt x y (.slice ad n c) (.slice none 0 0)).run P w=.ok () w:=λad n c=>by simp_all [eqGuard]
   have hq:∀ (ad:Option Addr) (n c:Nat),(Op.equal xt (.slice ad n c) (.slice none 0 0)).run P w=.ok ad.isNone w:=λad n c=>by
    grind [FO,Op.equal,Op.maxDepth]
   have hsl:∃ ad n c,a.eval x=.slice ad n c/\(ad.isNone=true->l=[]):=by
    generalize a.eval x=vx at hx;cases hx <;>grind
   have⟨ad,n,c,hvx,hl⟩:=hsl;cases op <;>simp only[abY]at he <;>first|exact absurd he.symm hr|subst he
   exact⟨ad.isNone,hl,W hvx ey (hg _ _ _) _ (by simp[Go.binOp,hq])⟩;exact⟨!ad.isNone,λh=>hl (by simpa using h),W hvx ey (hg _ _ _) _ (by simp[Go.binOp,hq])⟩
  rename_i b1 b2 _ _;have ex:=cV hx;have ey:=cV hy;have hg:(eqGuard op xt x y (.string b1) (.string b2)).run P w=.ok () w:=by simp_all [eqGuard]
  cases hb:Nat.beq (eD P xt i d).sc 2 with
  |false=>grind
  |true=>
   rw[hb]at he;cases op <;>simp only[Uo]at he <;>first|exact absurd he.symm hr|subst he
   exact⟨_,W ex ey hg _ (by simp[Go.binOp,Op.stringOp,beq_toListBytes]),.v _⟩;exact⟨_,W ex ey hg _ (by simp[Go.binOp,Op.stringOp,beq_toListBytes,bne]),.v _⟩
  rename_i b1 b2 _ _;have ex:=cV hx;have ey:=cV hy;have hg:(eqGuard op xt x y (.bool b1) (.bool b2)).run P w=.ok () w:=by simp_all [eqGuard]
  cases hb:Nat.beq (eD P xt i d).sc 3 with
  |false=>grind
  |true=>
   have hc:=ap_ hb;have hdb:d=.bool:=by cases d <;>simp[eD,cG]at hc <;>rfl
   subst hdb;have heq:(Op.equal xt (.bool b1) (.bool b2)).run P w=.ok (b1==b2) w:=by exact run_equalIn_bool' w 9999 xt b1 b2 hd
   cases op <;>simp only[M8]at he <;>first|exact absurd he.symm hr|subst he
   exact⟨_,W ex ey hg _ (by simp[Go.binOp,heq]),.v _⟩;exact⟨_,W ex ey hg _ (by simp[Go.binOp,heq,bne]),.v _⟩
  rename_i l m _ _;have⟨xs,ex,hxs⟩:=wp hx;have⟨ys,ey,hys⟩:=wp hy;unfold eqT aff at he;split at he
  grind
  rename_i c cs hcs;have hcs':XQ P xt d=c::cs:=hcs;cases hl:eqL (c::cs) l m with
  |none=>rw[hl]at he;exact absurd he.symm hr
  |some b=>
   rw[hl]at he;have hany:(Op.equal xt (.agg xs) (.agg ys)).run P w=.ok b w/\P.eqGuardType P.depth xt=false:=by
    grind [Wn,P5,XQ]
   have⟨q1,q2⟩:=hany;have hg:(eqGuard op xt x y (.agg xs) (.agg ys)).run P w=.ok () w:=run_eqGuard_agg w op xt x y xs ys q2;cases op <;>simp only[eqO]at he <;>first|exact absurd he.symm hr|subst he
   exact⟨_,W ex ey hg _ (by simp[Go.binOp,q1]),.v _⟩;exact⟨_,W ex ey hg _ (by simp[Go.binOp,q1]),.v _⟩
  grind
 |unOp op xt x=>
  change unS op (val _ x)=r at he;have hx:=X x;unfold unS at he;split at he
  rename_i b hs;subst he;rw[hs]at hx;have ex:=cV hx;exact⟨_,by simp[execOp,ex];rfl,.v _⟩;rename_i k n hs;subst he;rw[hs]at hx;have ex:=cV hx;exact⟨_,by simp only[execOp,ex];rfl,.v _⟩;grind
 |convert src dt x=>
  have⟨t1,ht1,he⟩:=cq (k:=λ_=>aR ts dt λti=>Py ti.int (val ⟨ts,ops,g,⟨t,h⟩,nx⟩ x)) E he hr;have⟨t2,ht2,he⟩:=cq E he hr;obtain⟨i1,d1,z1,hi1,hd1,hz1,hq1,rfl⟩:=bY ht1;obtain⟨i2,d2,z2,hi2,hd2,hz2,hq2,rfl⟩:=bY ht2;have hx:=X x;unfold Py at he;split at he
  rename_i kd k' n hk hs;subst he;rw[hs]at hx;have ex:=cV hx;cases d2 <;>simp[eD]at hk;refine⟨_,?_,.v _⟩;simp_all [execOp,Go.convert,run_underlying,Conv.intToInt];grind
 |panic x=>
  change XZ (val _ x)=r at he;have hx:=X x;unfold XZ at he;split at he
  rename_i t' y hs;subst he;rw[hs]at hx;have ex:=cV hx;simp[execOp,ex];rfl;grind
 |makeInterface V x=>
  have⟨ti,Y,he⟩:=cq (k:=λti=>bif ti.iface then .bad else Ha V (val ⟨ts,ops,g,⟨t,h⟩,nx⟩ x)) E he hr;obtain⟨i,d,z,hi,hd,hz,hq,rfl⟩:=bY Y;have hx:=X x;cases hif:(eD P V i d).iface with
  |true=>grind
  |false=>
   simp[hif]at he;unfold Ha at he;split at he
   rename_i k n hs;subst he;rw[hs]at hx;have ex:=cV hx;refine⟨_,?_,.v _⟩;simp[execOp,ex];cases d <;>simp[eD]at hif <;>simp[Instr.makeInterface,run_underlying hd];grind
 |makeFunc fn first caps=>
  change PC fn (dE _ first.toList) (dE _ caps.toList)=r at he;unfold PC at he;split at he
  rename_i f;subst he;have⟨q1,q2⟩:=xe X caps;have⟨q3,q4⟩:=xe X first
  exact⟨.func (.func f) (first.map a.eval) (caps.map a.eval),by rfl,.fn q3 q1 q4 q2⟩;grind
 |fieldAddr V x f=>
  have⟨ti,Y,he⟩:=cq (k:=λti=>match nth ti.fields f with|some (o,n,_) =>bif Nat.ble 1 n then DK o (val ⟨ts,ops,g,⟨t,h⟩,nx⟩ x)else .bad|none=>.bad) E he hr;cases hf:nth ti.fields f with
  |none=>grind
  |some q=>
   have⟨o,n,q⟩:=q;simp[hf]at he;cases hn:Nat.ble 1 n with
   |false=>grind
   |true=>
    simp[hn]at he;obtain⟨s',rfl⟩:=S4 he hr;have⟨u,e1,e2⟩:=Nq (P:=P) Y hf (nbl hn) (X x) he;exact⟨u,by simp_all [execOp],e2⟩
 |field V x f=>
  have⟨ti,Y,he⟩:=cq (k:=λti=>u7 (nth ti.fields f) (Kq (val ⟨ts,ops,g,⟨t,h⟩,nx⟩ x))) E he hr;have hsh:∃ s',r=.val s':=by
   unfold u7 at he;split at he
   have⟨s',_,e⟩:=p8 he hr;grind;grind
  obtain⟨s',rfl⟩:=hsh;have⟨u,e1,e2⟩:=Wc (P:=P) Y (X x) he;exact⟨u,by simp_all [execOp],e2⟩
 |indexAddr V x i=>
  have⟨ti,Y,he⟩:=cq (k:=λti=>aR ts ti.elem λte=>iO ti te.size h (val ⟨ts,ops,g,⟨t,h⟩,nx⟩ x) (val ⟨ts,ops,g,⟨t,h⟩,nx⟩ i)) E he hr;have⟨te,hte,he⟩:=cq E he hr;obtain⟨c,s',rfl,hc⟩:=Wd (P:=P) hp Y hte (X x) (X i) he hr;intro hcc;have⟨u,e1,e2⟩:=hc hcc;simp_all [execOp]
 |extract x i=>
  have hx:=X x;change XY i (val _ x)=r at he;generalize hvx:a.eval x=vx at hx;unfold XY at he;split at he
  rename_i l hs;rw[hs]at hx;obtain⟨s',e1,rfl⟩:=p8 he hr;rw[gW]at e1;cases hx with
  |tup q1 q2=>
   rename_i vs;have hlt:i<vs.size:=XN
   have:=q2 i s' e1;simp[aqC,arE hlt]at this;exact⟨vs[i],by simp[execOp,hvx,Instr.extract,hlt],this⟩
  grind
 |makeSlice V n c=>
  have⟨ti,Y,he⟩:=cq (k:=λti=>aR ts ti.elem λte=>bif ti.isSlice then(bif te.isSlice then aR ts te.elem λtr=>Nf nx te tr (val ⟨ts,ops,g,⟨t,h⟩,nx⟩ n) (val ⟨ts,ops,g,⟨t,h⟩,nx⟩ c)else mkS nx te (val ⟨ts,ops,g,⟨t,h⟩,nx⟩ n) (val ⟨ts,ops,g,⟨t,h⟩,nx⟩ c))else .bad) E he hr;have⟨te,hte,he⟩:=cq E he hr;cases hs:ti.isSlice with
  |false=>grind
  |true=>
   rw[hs]at he;cases hs2:te.isSlice with
   |true=>
    rw[hs2]at he;have⟨tr,htr,he⟩:=cq (k:=λtr=>Nf nx te tr (val ⟨ts,ops,g,⟨t,h⟩,nx⟩ n) (val ⟨ts,ops,g,⟨t,h⟩,nx⟩ c)) E he hr;exact xf (aco (P:=P) hp hn Y hte hs (X n) (X c) he hr)
   |false=>
    rw[hs2]at he;exact xf (afC (P:=P) hp hn Y hte hs (X n) (X c) he hr)
 |slice V x lo hi mx=>
  cases mx with
  |some m=>
   have⟨ti,Y,he⟩:=cq (k:=λti=>aR ts ti.elem λ_=>Hc ti (qA ⟨ts,ops,g,⟨t,h⟩,nx⟩ lo) (qA ⟨ts,ops,g,⟨t,h⟩,nx⟩ hi) (val ⟨ts,ops,g,⟨t,h⟩,nx⟩ m) (val ⟨ts,ops,g,⟨t,h⟩,nx⟩ x)) E he hr;have⟨te,hte,he⟩:=cq E he hr;have⟨_,l2⟩:=CE X lo;have⟨l3,_⟩:=CE X hi;have⟨c,s',hc,h1⟩:=Yo (P:=P) Y hte (X x) (X m) l2 l3 he hr;rcases hc with⟨rfl,hc⟩ |rfl;have⟨u,e1,e2⟩:=h1 hc;exact⟨u,by simp_all [execOp],e2⟩;intro hcc;have⟨u,e1,e2⟩:=h1 hcc;simp_all [execOp]
  |none=>
  have⟨ti,Y,he⟩:=cq (k:=λti=>aR ts ti.elem λte=>px ti te.size nx h (qA ⟨ts,ops,g,⟨t,h⟩,nx⟩ lo) (qA ⟨ts,ops,g,⟨t,h⟩,nx⟩ hi) (LI hi&&PA ops) (val ⟨ts,ops,g,⟨t,h⟩,nx⟩ x)) E he hr;have⟨te,hte,he⟩:=cq E he hr;have⟨l1,l2⟩:=CE X lo;have⟨l3,l4⟩:=CE X hi;rcases Wp (P:=P) hp hn Y hte (X x) l1 l2 l3 l4 (λq=>by cases hi with|none=>rfl|some _=>simp[LI]at q) he hr with⟨c,s',rfl,hc⟩ |he;intro hcc;have⟨u,e1,e2⟩:=hc hcc;simp_all [execOp];exact xf he
 |makeMap V rs=>
  cases rs with
  |some _=>exact absurd he.symm hr
  |none=>
  have⟨ti,Y,he⟩:=cq (k:=λti=>mmR nx ti.mkt ti.mvt) E he hr;unfold mmR at he;split at he
  subst he;intro _;refine⟨trivial,.map (some w.heap.size),own.set nx ⟨none,.map (some w.heap.size),[],[w.heap.size]⟩,w.alloc (.map #[] 0),.inl (by rfl),?_,?_⟩;have:=Rel.os (F:=F) (own:=own.set nx ⟨none,.map (some w.heap.size),[],[w.heap.size]⟩) (w:=w.alloc (.map #[] 0)) (Own.atQ _ _ _) rfl;exact this;exact w8 hp hn (w1:=w) ⟨rfl,rfl,rfl,rfl⟩ _ _ _ rfl λl5 g=>⟨w.heap.size,#[],0,rfl,rfl,lW _ _,⟨rfl,λi x hx=>by simp[fB]at hx⟩,⟨by simp[lX],λn hn=>by simp[lX]at hn⟩,trivial⟩;grind
 |lookup V m k ok=>
  have⟨ti,Y,he⟩:=cq (k:=λti=>wg ti h ok (val ⟨ts,ops,g,⟨t,h⟩,nx⟩ k) (val ⟨ts,ops,g,⟨t,h⟩,nx⟩ m)) E he hr;obtain⟨s',rfl,u,e1,e2⟩:=Yq (P:=P) hp Y (X m) (X k) he hr;exact⟨u,by simp_all [execOp],e2⟩
 |mapUpdate V m k v=>
  have⟨ti,Y,he⟩:=cq (k:=λti=>FM ti h (val ⟨ts,ops,g,⟨t,h⟩,nx⟩ k) (val ⟨ts,ops,g,⟨t,h⟩,nx⟩ v) (val ⟨ts,ops,g,⟨t,h⟩,nx⟩ m)) E he hr;obtain⟨ups,rfl,w',e1,e2⟩:=UH (P:=P) hp Y (X m) (X k) (X v) he hr;exact λ_=>⟨trivial,undef,own,w',.inr ⟨by simp[execOp,e1],rfl⟩,.any _,e2⟩
 |insert V m k v=>
  have⟨ti,Y,he⟩:=cq (k:=λti=>FM ti h (val ⟨ts,ops,g,⟨t,h⟩,nx⟩ k) (val ⟨ts,ops,g,⟨t,h⟩,nx⟩ v) (val ⟨ts,ops,g,⟨t,h⟩,nx⟩ m)) E he hr;obtain⟨ups,rfl,w',e1,e2⟩:=UH (P:=P) hp Y (X m) (X k) (X v) he hr;exact λ_=>⟨trivial,undef,own,w',.inr ⟨by simp[execOp,e1],rfl⟩,.any _,e2⟩
 |mapEntry V m k=>
  have⟨ti,Y,he⟩:=cq (k:=λti=>Cn ti nx h (val ⟨ts,ops,g,⟨t,h⟩,nx⟩ k) (val ⟨ts,ops,g,⟨t,h⟩,nx⟩ m)) E he hr;exact xf (acm (P:=P) hp hn Y (X m) (X k) he hr)
 |entryStore V m s v=>
  have⟨ti,Y,he⟩:=cq (k:=λti=>Ng ti h (val ⟨ts,ops,g,⟨t,h⟩,nx⟩ v) (val ⟨ts,ops,g,⟨t,h⟩,nx⟩ m) (val ⟨ts,ops,g,⟨t,h⟩,nx⟩ s)) E he hr;obtain⟨c,ups,rfl,hc⟩:=acn (P:=P) hp Y (X m) (X s) (X v) he hr;intro hcc;have⟨w',e1,e2⟩:=hc hcc;exact⟨trivial,undef,own,w',.inr ⟨by simp[execOp,e1],rfl⟩,.any _,e2⟩
 |typeAssert x xt V ok=>
  obtain⟨ti,Y,he⟩:=cq (k:=λti=>taS V ok ti (val ⟨ts,ops,g,⟨t,h⟩,nx⟩ x)) E he hr;obtain⟨i,d,z,hi,hd,hz,hq,rfl⟩:=bY Y;have hx:=X x;unfold taS at he;split at he
  rename_i t' y hs;rw[hs]at hx;have ex:=cV hx;cases hif:(eD P V i d).iface with
  |true=>grind
  |false=>
   rw[hif]at he;simp only[cond_false]at he;cases hb:Nat.beq t' V with
   |false=>grind
   |true=>
    rw[hb]at he;simp only[cond_true]at he;have htt:=ap_ hb;have hrr:r=(bif ok then .val (.tup [.v y,.b true])else .val (.v y)):=he.symm;subst htt;have W:(Instr.typeAssert (.iface t' y) xt t' ok).run P w=.ok (if ok then .tuple #[y,.bool true]else y) w:=by
     cases d <;>simp[eD]at hif <;>cases ok <;>simp[Instr.typeAssert,run_underlying hd]
    rw[hrr];clear hrr;cases ok with
    |false=>exact⟨y,by simp_all [execOp],.v _⟩
    |true=>
     refine⟨.tuple #[y,.bool true],by simp_all [execOp],.tup rfl λj s hj=>?_⟩;cases j with
     |zero=>simp at hj;subst hj;exact .v _
     |succ j=>
      cases j with
      |zero=>simp at hj;subst hj;exact .v _|succ j=>simp at hj
  grind
 |call c=>
  obtain⟨callee,args,tys⟩:=c;cases callee with
  |value f=>
   have hf:=X f;change Cl (dE _ args.toList) (val _ f)=r at he;generalize hvf:a.eval f=vf at hf;unfold Cl at he;split at he
   rename_i fid first caps hs
   subst he;rw[hs]at hf;cases hf with
   |fn q1 q2 q3 q4=>
    rename_i us vs;have⟨p1,p2⟩:=xe X args;refine⟨us++args.map a.eval++vs,atP.app (atP.app ⟨q1,q3⟩ ⟨p1,p2⟩) ⟨q2,q4⟩,?_⟩;simp[execOp,resolve,hvf,Deferred.ofValue,invoke]
   rename_i id hs;subst he;rw[hs]at hf;obtain⟨hd,h1,rfl,h2⟩:=i7 hf;exact⟨hd,h1,args.map a.eval,xe X args,by simp[execOp,resolve,hvf,Wt]⟩;grind
  |invoke f m=>exact absurd he.symm hr
  |builtin b=>
   have⟨p1,p2⟩:=xe X args;have W:∀ (b:Builtin),(execOp a.eval { dst:=dst,op:=.call ⟨.builtin b,args,tys⟩,type:=ty,pos:=pos,after:=after,guard:=guard})=builtin b tys ty (args.map λ| .const _=>true|_=>false) (args.map a.eval):=λb=>rfl;cases b <;>first|(exact absurd he.symm hr) |skip
   ·
    change (match tys.toList with| [t',t2] =>aR ts t' λti=>aR ts t2 λti2=>aR ts ti.elem λte=>bif ti.isSlice&&ti2.isSlice then nW te nx h (dE _ args.toList)else .bad|_=>.bad)=r at he;split at he
    rename_i t' t2 htys;have⟨ti,Y,he⟩:=cq E he hr;have⟨ti2,ht2,he⟩:=cq E he hr;have⟨te,hte,he⟩:=cq E he hr;cases hs:ti.isSlice&&ti2.isSlice with
    |false=>grind
    |true=>
     rw[hs]at he;rw[ap9]at hs;have htys':tys= #[t',t2]:=XN
     have:=acj (P:=P) (ty:=ty) hp hn Y ht2 hte hs.1 hs.2 ⟨p1,p2⟩ he hr;grind [xf,builtin]
    grind
   ·
    change (match tys.toList with| [t'] =>aR ts t' λti=>aR ts ti.elem λte=>Bx ti te h (dE _ args.toList) |_=>.bad)=r at he;split at he
    rename_i t' htys;have⟨ti,Y,he⟩:=cq E he hr;have⟨te,hte,he⟩:=cq E he hr;have htys':tys= #[t']:=XN
    have:=acp (P:=P) hp Y hte ⟨p1,p2⟩ he hr ty;grind [xf,builtin]
    grind
   ·
    change (match tys.toList with|t'::_=>aR ts t' λti=>By ti h (dE _ args.toList) |_=>.bad)=r at he;split at he
    rename_i t' rest htys;have⟨ti,Y,he⟩:=cq E he hr;have hty0:tys[0]? =some t':=by rw[<-asg,htys];rfl
    obtain⟨ups,rfl,u,w',e1,e2⟩:=acl (P:=P) hp Y ⟨p1,p2⟩ he hr hty0 ty;intro _;refine⟨trivial,u,own,w',.inl ?_,.any _,e2⟩;simp_all [builtin];grind
   ·
    change (match tys.toList with| [t'] =>aR ts t' λti=>wL ti h (dE _ args.toList) |_=>.bad)=r at he;split at he
    rename_i t' htys;have⟨ti,Y,he⟩:=cq E he hr;have htys':tys= #[t']:=XN
    have⟨n,hn',hl⟩:=ack (P:=P) (ty:=ty) hp Y ⟨p1,p2⟩ he hr;have hfin:(execOp a.eval { dst:=dst,op:=.call ⟨.builtin .len,args,tys⟩,type:=ty,pos:=pos,after:=after,guard:=guard}).run P w=.ok (.value (.int .i64 n)) w:=by
     simp_all [builtin]
    rcases hn' with⟨c,rfl,hc⟩ |rfl;exact⟨hc,_,hfin,.v _⟩;exact⟨_,hfin,.v _⟩;grind
   change Nd (dE _ args.toList)=r at he;unfold Nd at he;split at he
   rename_i k x k' y hvl;subst he;rw[hvl]at p1 p2;have h0:=p2 0 _ rfl;have h1:=p2 1 _ rfl;generalize hgv:args.map a.eval=vs at *;have⟨l⟩:=vs;match l,p1 with
   | [u,v],_=>
    have e0:=cV h0;have e1:=cV h1;exact⟨_,by simp_all [builtin,Builtin.max_,Builtin.max2],.v _⟩
   grind
   change Nc (dE _ args.toList)=r at he;unfold Nc at he;split at he
   rename_i k x k' y hvl;subst he;rw[hvl]at p1 p2;have h0:=p2 0 _ rfl;have h1:=p2 1 _ rfl;generalize hgv:args.map a.eval=vs at *;have⟨l⟩:=vs;match l,p1 with
   | [u,v],_=>
    have e0:=cV h0;have e1:=cV h1;exact⟨_,by simp_all [builtin,Builtin.min_,Builtin.min2],.v _⟩
   grind
 |range V x=>
  have⟨ti,Y,he⟩:=cq (k:=λti=>Nh ti nx h (val ⟨ts,ops,g,⟨t,h⟩,nx⟩ x)) E he hr;have hvx:=X x;generalize val ⟨ts,ops,g,⟨t,h⟩,nx⟩ x=sx at he hvx;unfold Nh at he;split at he
  rename_i id;have⟨hdd,h1,hv1,h2⟩:=i7 hvx;cases ho:aq h id with
  |mp kk vk l aui=>
   rw[ho]at he;simp[ab_]at he;cases hc:mQ kk ti.mkt&&mQ vk ti.mvt&&noE aui with
   |false=>grind
   |true=>
     rw[hc]at he;simp[ap9]at hc;subst he;have⟨kt,e,q1,_⟩:=BC Y (pc hc.1.1) (pc hc.1.2);have⟨hd',e0,bm,es,clk,m1,m2,m3,m4,m5,_⟩:=hp.at ho rfl;rw[h1]at e0;cases e0;rw[lz hc.2]at m4;have hes:es.size=l.length:=m4.1;have hidn:id≠nx:=λe=>by rw[e,hn.none]at h1;cases h1
     intro _;refine⟨trivial,.pointer (some ⟨w.heap.size,0,none⟩),own.set nx ⟨some w.heap.size,undef,stV (lX es) clk,[w.heap.size]⟩,w.alloc (.mapIter (some bm) clk #[] clk),.inl ?_,.ptr (Own.atQ _ _ _) rfl,?_⟩;have:=run_range_map (P:=P) w V kt e bm es clk q1 m3;simp_all [execOp];have s1:=w8 hp hn (w1:=w) ⟨rfl,rfl,rfl,rfl⟩ (.mapIter (some bm) clk #[] clk) (.mi (some id) l.length (List.range l.length) none) ⟨some w.heap.size,undef,stV (lX es) clk,[w.heap.size]⟩ rfl λl5 g=>⟨w.heap.size,rfl,rfl,λi hi=>by
      cases hi;have⟨hd2,k1,k2⟩:=g.ids _ _ h1;have hbl:(lX es).length=l.length:=by simp[lX,hes]
      refine⟨hd2,bm,#[],clk,lX es,k1,k2.2.1.trans m1,lW _ _,rfl,hbl,List.nodup_range,λk=>?_,λj hj=>by cases hj⟩;grind⟩
     have go:(own.set nx ⟨some w.heap.size,undef,stV (lX es) clk,[w.heap.size]⟩) id=some hdd:=by grind [Own.atX]
     have s2:=LK s1.hp go (.mp kk vk l (some (nx,none))) ⟨bm,es,clk,m1,m2,by grind [tx],m4.carry s1.fr.aub.at7,m5,_,Own.atQ _ _ _,rfl⟩;refine⟨s2.hp,s1.fr.trans s2.fr,λj hj hd=>?_⟩;have hd2:dT (aq (cO (cO h nx (.mi (some id) l.length (List.range l.length) none)) id (.mp kk vk l (some (nx,none)))) j)=true:=hd;rw[dM,dM]at hd2;by_cases e:j=nx
     subst e;rw[if_neg hidn,if_pos rfl]at hd2;cases hd2;grind [Own.atX]
  |_=>rw[ho]at he;exact absurd he.symm hr
  grind
 |next it isS=>
  cases isS with
  |true=>exact absurd he.symm hr
  |false=>
   have hvx:=X it;change X6 (val ⟨ts,ops,g,⟨t,h⟩,nx⟩ it)=r at he;generalize val ⟨ts,ops,g,⟨t,h⟩,nx⟩ it=sx at he hvx;unfold X6 at he;split at he
   rename_i id;subst he;have key:∀ v,Rel F own w (.ptr id 0) v->∃ hd b,own id=some hd/\hd.p=some b/\v=.pointer (some ⟨b,0,none⟩):=λv h=>by
    cases h <;>grind
   have⟨hd,b,e1,e2,hev⟩:=key _ hvx;refine⟨hd,b,e1,e2,ty,λu w' W=>?_⟩;simp_all [execOp];grind
 |entry it=>
  have hvx:=X it;change E6 h (val ⟨ts,ops,g,⟨t,h⟩,nx⟩ it)=r at he;generalize val ⟨ts,ops,g,⟨t,h⟩,nx⟩ it=sx at he hvx;unfold E6 at he;split at he
  ·rename_i id;cases ho:aq h id with
   |mi mid n left cur=>
    rw[ho]at he;unfold Uw at he;split at he
    ·rename_i mid' n' left' j hob;cases hob;cases hm:aq h mid' with
     |mp kk vk l aui=>
      rw[hm]at he;cases aui with
      |none=>exact absurd he.symm hr
      |some q=>
      have⟨it,q⟩:=q;cases q with
      |some _=>exact absurd he.symm hr
      |none=>
      simp only[X7]at he;cases hbi:Nat.beq it id with
      |false=>grind
      |true=>
       rw[hbi]at he;have hit:=ap_ hbi;subst he;rintro⟨hn0,hj⟩;have key:∀ v,Rel F own w (.ptr id 0) v->∃ hd b,own id=some hd/\hd.p=some b/\v=.pointer (some ⟨b,0,none⟩):=λv h=>by
        cases h <;>grind
       have⟨hd,b,e1,e2,hev⟩:=key _ hvx;have⟨hd',e1',b',p1,p2,p3⟩:=hp.at ho rfl;rw[e1]at e1';cases e1';have⟨hdm,bm,seen,c0,ss,k1,k2,k3,k4,k5,k6,k7,k8⟩:=p3 _ rfl;have⟨s8,hs8,hs⟩:=k8 j rfl;have⟨hdm',k1',bm',es,clk,m1,m2,m3,m4,m5,hd2,t1,t2⟩:=hp.at hm rfl;rw[k1]at k1';cases k1';rw[k2]at m1;cases m1;rw[hit,e1]at t1;cases t1;have⟨hc0,hss⟩:=UB (k4.symm.trans t2);subst hc0;have⟨en,f1,f2,f3,f4⟩:=m4.2 j l[j] (by simp[fB]);have hen:s8=en.born:=by
        grind [lX]
       subst hen;have hseen:seen=seen.pop.push en.born:=by
        obtain⟨xs,rfl⟩:=Array.back?_eq_some_iff.1 hs;simp
       have W:=Ku (P:=P) (w:=w) (b:=b) (bm:=bm) (since:=c0) (clock:=c0) (seen:=seen.pop) (es:=es) (e:=en) XN m3 XN m5.1;refine⟨.tuple #[en.key,en.val],by simp[execOp,hev,W],.tup rfl λk s hk=>?_⟩;have hgd:l.getD j (eT kk,eT vk)=l[j]:=XN
       rw[hgd]at hk;match k,hk with
       |0,hk=>cases hk;exact f3|1,hk=>cases hk;exact f4
     |_=>rw[hm]at he;exact absurd he.symm hr
    grind
   |_=>rw[ho]at he;exact absurd he.symm hr
  grind
 |_=>exact absurd he.symm hr
end
def Dfr (F:Nat->Prop)(B:Bs)(w:World)(ds:List Deferred):Prop:=
 ∃ (ms:List Deferred) (Ds:List Nat),ds=ms++B.ds/\ms.map (·.target)=Ds.map .collected/\Ds.Nodup/\∀ D∈Ds,B.w.heap.size<=D/\F D/\w.heap[D]? =some (.deferred (some []))
variable {F:Nat->Prop}{B:Bs}{w:World}
theorem Dfr.fr{own l5:Own}{w':World}{ds:List Deferred}(h:Dfr F B w ds)(g:Fr { w:=w,own:=own} l5 w')(E:∀ (id:Nat) (hd:Hd) (b:Nat),own id=some hd->b∈hd.bs->¬F b):Dfr F B w' ds:=by
 have⟨ms,Ds,h0,h1,h2,h3⟩:=h;refine⟨ms,Ds,h0,h1,h2,λD O=>?_⟩;have⟨q1,q2,q3⟩:=h3 D O;exact⟨q1,q2,by rw[g.block D ⟨wj q3,λ⟨id,hd,e,V⟩ =>E id hd D e V q2⟩];exact q3⟩
theorem Dfr.nil:Dfr F B w B.ds:=⟨[],[],rfl,rfl,arz,λD h=>by cases h⟩
def oJ (a:List Oper)(j:Nat):Prop:= ∃ (i:Nat) (o:Oper) (b:Bool),a[i]? =some o/\o.guard=some (j,b)
def au9 (F:Nat->Prop)(ops:List Oper)(E:Nat->Prop)(own:Own)(a:Act)(w:World):SV->Value->Prop
 | .gd j b s,v=>E j/\oJ ops j/\(yielded ops.toArray a.tmps j=some b->Rel F own w s v)|s,v=>Rel F own w s v
def GOk (ops:List Oper)(a:Act):Option (Nat×Bool)->Prop
 |none=>True|some g=>yielded ops.toArray a.tmps g.1=some g.2
section
variable {P:Program}{F:Nat->Prop}{own:Own}{w:World}{ts:Tis}
variable {ops:List Oper}{E:Nat->Prop}{a:Act}{v:Value}
theorem zB{s:SV}(h:Rel F own w s v):au9 F ops E own a w s v:=by
 cases s <;>first|exact h|cases h
variable {l5:Own}{w':World}
theorem au9.mono{O:Nat->Prop}{V:Act}{s:SV}(h:au9 F ops E own a w s v)(hn:∀ j,E j->O j)(g:at4 F own w l5 w')
  (hy:∀ j b,E j->oJ ops j->yielded ops.toArray V.tmps j=some b->yielded ops.toArray a.tmps j=some b):au9 F ops O l5 V w' s v:=by
 cases s with
 |gd j b s=>exact⟨hn j h.1,h.2.1,λq=>(h.2.2 (hy j b h.1 h.2.1 q)).mono g⟩
 |_=>exact Rel.mono g h
theorem mZ (ops:List Oper)(tmps:Array Value)(j:Nat)(b:Bool):yielded ops.toArray tmps j=some b↔∃ o d,ops[j]? =some o/\o.dst=some d/\tmps[d]? =some (.bool b):=by
 grind [yielded,Option.bind_eq_some_iff]
structure ROk (N:Nat)(ops:List Oper):Prop where
 dst:∀ (i:Nat) (o:Oper) (d:Nat),ops[i]? =some o->o.dst=some d->d<N
 lt:∀ (i:Nat) (o:Oper) (j:Nat) (b:Bool),ops[i]? =some o->o.guard=some (j,b)->j<i
 uniq:∀ (j:Nat),oJ ops j->∃ (o:Oper) (d:Nat),ops[j]? =some o/\o.dst=some d/\∀ (k:Nat) (q:Oper),k≠j->ops[k]? =some q->q.dst≠some d
variable {N:Nat}
theorem Ys(h:Yg N ops=true):ROk N ops:=by
 have h':∀ (i:Nat) (o:Oper),ops[i]? =some o->((match o.dst with|some d=>Nat.blt d N|none=>true)&&GA ops i o)=true:=by
  intro i o E;unfold Yg at h;rw[aqU]at h;have:=h i (arW.2 (aqe.1 E).1);grind [gW]
 refine⟨λi o d E hd=>?_,λi o j b E O=>?_,λj ⟨i,o,b,E,O⟩ =>?_⟩;have:=h' i o E;simp_all;have:=h' i o E;simp_all [GA];have:=h' i o E;simp[GA,O,ap9]at this;have⟨_,_,h3⟩:=this;rw[gW]at h3;cases X:ops[j]? with
 |none=>grind
 |some q=>
  cases hd:q.dst with
  |none=>grind
  |some d=>
   rw[X]at h3;simp[arK,hd,aqU,arW]at h3;refine⟨q,d,rfl,hd,λk p Y W V=>?_⟩;have:=h3 k (aqe.1 W).1;simp_all [gW]
theorem HF {E:Nat->Prop}{ops:List Oper}{a:Act}(O:∀ (k:Nat) (o:Oper) (j:Nat) (b:Bool),E k->ops[k]? =some o->o.guard=some (j,b)->E j)(X:∀ (k:Nat) (o:Oper) (b:Bool),E k->oJ ops k->ops[k]? =some o->yielded ops.toArray a.tmps k=some b->GOk ops a o.guard):
  ∀ (n:Nat) (g:Option (Nat×Bool)) (j:Nat) (b:Bool),(∀ k c,g=some (k,c)->E k/\oJ ops k)->
  uo ops n g j b=true->GOk ops a g->yielded ops.toArray a.tmps j=some b
 |0,_,_,_,_,h,_=>by simp[uo]at h
 |n+1,none,_,_,_,h,_=>by simp[uo]at h
 |n+1,some (j',b'),j,b,hm,h,hk=>by
  simp only[uo]at h;cases hc:Nat.beq j' j&&FK b' b with
  |true=>
   simp only[ap9]at hc;have Y:=ap_ hc.1;have e2:b'=b:=by cases b' <;>cases b <;>simp[FK]at hc |-
   subst Y;subst e2;exact hk
  |false=>
   simp[hc]at h;have V:yielded ops.toArray a.tmps j'=some b':=hk;have⟨o,d,h1,h2,h3⟩:=(mZ _ _ _ _).1 V;have⟨q1,q2⟩:=hm j' b' rfl;rw[gW,h1]at h;refine HF O X n o.guard j b (λk c W=>?_) h (X j' o b' q1 q2 h1 V);exact⟨O j' o k c q1 h1 W,j',o,c,h1,W⟩
structure atV (F:Nat->Prop)(w0:Bs)(N:Nat)(ops:List Oper)(E:Nat->Prop)(own:Own)(st:St)(a:Act)(w:World):Prop where
 size:a.tmps.size=N
 defers:Dfr F w0 w a.defers
 hp:Hp F own w st.h
 fr:Fr w0 own w
 slots:∀ t,au9 F ops E own a w (lk t st.t) (a.tmps.getD t undef)
 tags:∀ (k:Nat) (o:Oper) (d j:Nat) (b:Bool) (s:SV),E k->oJ ops k->ops[k]? =some o->o.dst=some d->lk d st.t=.gd j b s->o.guard=some (j,b)
 closed:∀ (k:Nat) (o:Oper) (j:Nat) (b:Bool),E k->ops[k]? =some o->o.guard=some (j,b)->E j
 chain:∀ (k:Nat) (o:Oper) (b:Bool),E k->oJ ops k->ops[k]? =some o->yielded ops.toArray a.tmps k=some b->GOk ops a o.guard
variable {w0:Bs}{st:St}{g:Option (Nat×Bool)}
theorem Nz{nx:Nat}(hi:atV F w0 N ops E own st a w)(X:GOk ops a g)(O:∀ k c,g=some (k,c)->E k/\oJ ops k)(x:Operand):
  Rel F own w (val ⟨ts,ops,g,st,nx⟩ x) (a.eval x):=by
 cases x with
 |tmp t=>
  have h:=hi.slots t;show Rel F own w (bJ ops g (lk t st.t)) (a.tmps.getD t undef);cases V:lk t st.t with
  |gd j b s=>
   rw[V]at h;show Rel F own w (bif uo ops ops.length g j b then s else .any) _;cases W:uo ops ops.length g j b with
   |true=>exact h.2.2 (HF hi.closed hi.chain _ g j b O W X)|false=>exact .any _
  |_=>rw[V]at h;exact h
 |const v=>exact .v v
 |func f=>exact .fn rfl rfl (λj s h=>by simp at h) (λj s h=>by simp at h)
 |global g=>exact .any _
theorem Au(hi:atV F w0 N ops E own st a w)(hg:GOk ops a g)(Y:∀ k c,g=some (k,c)->E k/\oJ ops k)(c x:Operand)(O:Bool)
  (hc:a.eval c=.bool O):Rel F own w (lV ops g c O (raw st.t x)) (a.eval x):=by
 have W:=Nz (ts:=λ_=>none) (nx:=0) hi hg Y x;change Rel F own w (bJ ops g (raw st.t x)) (a.eval x)at W;cases V:raw st.t x with
 |gd j b s=>
  rw[V]at W;show Rel F own w (bif FK b O&&Px ops j c then s else bJ ops g (.gd j b s)) _;cases X:FK b O&&Px ops j c with
  |false=>exact W
  |true=>
   simp[ap9]at X;have e2:b=O:=by cases b <;>cases O <;>simp[FK]at X |-
   subst e2;cases x with
   |tmp t=>
    have h:=hi.slots t;have hs':lk t st.t=.gd j b s:=V;rw[hs']at h;refine h.2.2 ((mZ _ _ _ _).2 ?_);have hd:=X.2;unfold Px at hd;rw[gW]at hd;split at hd
    rename_i d tc hb;have e:=ap_ hd;subst e;have:a.tmps.getD d undef=.bool b:=hc;simp[aqC]at this;grind [undef]
    cases hd
   |const v=>simp[raw]at V|func f=>simp[raw]at V|global q=>simp[raw]at V
 |_=>rw[V]at W;exact W
theorem t9 (t:List (Nat×SV))(d:Nat)(s:SV)(n:Nat):lk n ((d,s)::t)=if d=n then s else lk n t:=by
 simp_all [lk]
theorem acq (a:Act)(d:Nat)(v:Value)(hd:d<a.tmps.size)(n:Nat):(a.put (some d) v).tmps.getD n undef=if d=n then v else a.tmps.getD n undef:=by
 simp[Act.put,aqC];grind
theorem LU{dst:Option Nat}{j:Nat}{q:Oper}{E:Nat}(V:ops[j]? =some q)(hd:q.dst=some E)(O:dst≠some E)(b:Bool):
  yielded ops.toArray (a.put dst v).tmps j=some b↔yielded ops.toArray a.tmps j=some b:=by
 rw[mZ,mZ];have:(a.put dst v).tmps[E]? =a.tmps[E]?:=by
  cases dst with
  |none=>rfl
  |some d=>
   simp_all [Act.put]
 grind
theorem atV.step{n:Nat}{E':Nat->Prop}(hr:ROk N ops)(hE:∀ k,E' k↔E k\/k=n)(hnE:¬E n)(hi:atV F w0 N ops E own st a w){o:Oper}(ho:ops[n]? =some o){h':List Ob}{s:SV}
  (fr1:Fr { w:=w,own:=own} l5 w') (hp:Hp F l5 w' h')
  (hgE:∀ j b,o.guard=some (j,b)->E j) (hs:au9 F ops E' l5 (a.put o.dst v) w' s v) (hch:∀ b:Bool,v=.bool b->GOk ops a o.guard) (auX:∀ j b s',s=.gd j b s'->o.guard=some (j,b)):
  atV F w0 N ops E' l5 (St.put ⟨st.t,h'⟩ o.dst s) (a.put o.dst v) w':=by
 have g:at4 F own w l5 w':=fr1.aub;have hfr:=hi.fr.trans fr1;have hyk:∀ j b,E j->oJ ops j->(yielded ops.toArray (a.put o.dst v).tmps j=some b↔yielded ops.toArray a.tmps j=some b):=by
  intro j b hj O;have⟨q,dj,h1,h2,h3⟩:=hr.uniq j O;grind [LU]
 have hcl:∀ (k:Nat) (q:Oper) (j:Nat) (b:Bool),E' k->ops[k]? =some q->q.guard=some (j,b)->E j:=by
  intro k q j b X W V;rcases(hE k).1 X with X|rfl;exact hi.closed k q j b X W V;grind
 have hgk:∀ (k:Nat) (q:Oper),E' k->ops[k]? =some q->GOk ops a q.guard->GOk ops (a.put o.dst v) q.guard:=by
  intro k q X W hgo;cases V:q.guard with
  |none=>trivial
  |some g=>
   rw[V]at hgo;exact(hyk g.1 g.2 (hcl k q g.1 g.2 X W V) ⟨k,q,g.2,W,V⟩).2 hgo
 refine⟨?_,?_,?_,hfr,?_,?_,λk q j b X W V=>(hE j).2 (.inl (hcl k q j b X W V)),?_⟩;cases hd:o.dst <;>simp[Act.put,hi.size];have:(a.put o.dst v).defers=a.defers:=by cases hd:o.dst <;>rfl
 rw[this];exact hi.defers.fr fr1 hi.hp.apart;cases hd:o.dst <;>exact hp;intro t;have Y:au9 F ops E' l5 (a.put o.dst v) w' (lk t st.t) (a.tmps.getD t undef):=
  (hi.slots t).mono (λj hj=>(hE j).2 (.inl hj)) g (λj b hj O=>(hyk j b hj O).1)
 cases hd:o.dst with
 |none=>
  rw[hd]at Y;exact Y
 |some d=>
  show au9 F ops E' l5 _ w' (lk t ((d,s)::st.t)) _;rw[t9,acq _ _ _ (by rw[hi.size];exact hr.dst n o d ho hd)];grind
 intro k q d j b s' X O W hqd hl;rcases(hE k).1 X with hkn|hkn;have⟨q',d',h1,h2,h3⟩:=hr.uniq k O;have hne:=h3 n o (λe=>hnE (e▸hkn)) ho;refine hi.tags k q d j b s' hkn O W hqd ?_;cases hd:o.dst with
 |none=>rw[hd]at hl;exact hl
 |some d2=>
  rw[hd]at hl;change lk d ((d2,s)::st.t)=_ at hl;simp_all [t9]
 subst hkn;rw[ho]at W;cases W;rw[hqd]at hl;change lk d ((d,s)::st.t)=_ at hl;rw[t9]at hl;grind
 intro k q b X O W hy;rcases(hE k).1 X with hkn|hkn;exact hgk k q X W (hi.chain k q b hkn O W ((hyk k b hkn O).1 hy));grind [mZ,Act.put]
theorem xg {w0:Bs}{N:Nat}{E:Nat->Prop}{ops:List Oper}{st:St}{a:Act}(hi:atV F w0 N ops E own st a w){t:List (Nat×SV)}(n:Nat)
  (ht:∀ (j:Nat) (o:Oper) (d:Nat),j<n->E j->oJ ops j->ops[j]? =some o->o.dst=some d->lk d t=lk d st.t) (hlt:∀ (i:Nat) (o:Oper) (j:Nat) (b:Bool),ops[i]? =some o->o.guard=some (j,b)->j<i):
  ∀ (m:Nat) (g:Nat×Bool),g.1<n->E g.1->oJ ops g.1->GOk ops a (some g)->eb ops t m g
 |0,_,_,_,_,_=>trivial
 |m+1,(j,want),hjn,hj,hrf,hg=>by
  have X:yielded ops.toArray a.tmps j=some want:=hg;have⟨o,d,h1,h2,h3⟩:=(mZ _ _ _ _).1 X;have V:=hi.slots d;have hv:a.tmps.getD d undef=.bool want:=by simp_all
  rw[hv]at V;simp[eb,gW,h1,arK,h2,ht j o d hjn hj hrf h1 h2];split
  rename_i x Y;rw[Y]at V;have:=cV (F:=F) (own:=own) (w:=w) V;grind
  rename_i j' b x Y;rw[Y]at V;have⟨q1,q2,q3⟩:=V;have W:=hi.tags j o d j' b _ hj hrf h1 h2 Y;have O:=hi.chain j o want hj hrf h1 X;rw[W]at O;have:=cV (q3 O);simp at this;exact⟨xg hi n ht hlt m (j',b) (Nat.lt_trans (hlt j o j' b h1 W) hjn) q1 q2 O,this.symm⟩;trivial
theorem HG {w0:Bs}{N:Nat}{E:Nat->Prop}{ops:List Oper}{st:St}{a:Act}(hi:atV F w0 N ops E own st a w){t:List (Nat×SV)}(n:Nat)
  (ht:∀ (j:Nat) (o:Oper) (d:Nat),j<n->E j->oJ ops j->ops[j]? =some o->o.dst=some d->lk d t=lk d st.t) (hlt:∀ (i:Nat) (o:Oper) (j:Nat) (b:Bool),ops[i]? =some o->o.guard=some (j,b)->j<i):
  ∀ (m:Nat) (g:Nat×Bool),g.1<n->E g.1->oJ ops g.1->¬GOk ops a (some g)->gN ops t m g
 |0,_,_,_,_,_=>trivial
 |m+1,(j,want),hjn,hj,hrf,hg=>by
  have hg':¬yielded ops.toArray a.tmps j=some want:=hg;simp[gN,gW];cases X:ops[j]? with
  |none=>simp
  |some o=>
   cases hd:o.dst with
   |none=>simp[hd]
   |some d=>
    simp[arK,hd,ht j o d hjn hj hrf X hd];have W:=hi.slots d;have hy:∀ x,a.tmps.getD d undef=.bool x->yielded ops.toArray a.tmps j=some x:=λx O=>by
     refine(mZ _ _ _ _).2 ⟨o,d,X,hd,?_⟩;simp[aqC]at O;grind [undef]
    split
    rename_i x O;rw[O]at W;have:=cV (F:=F) (own:=own) (w:=w) W;grind
    rename_i Y b x O;rw[O]at W;have⟨q1,q2,q3⟩:=W;have htg:=hi.tags j o d Y b _ hj hrf X hd O;by_cases V:GOk ops a (some (Y,b))
    have:=cV (q3 V);grind
    left;exact HG hi n ht hlt m (Y,b) (Nat.lt_trans (hlt j o Y b X htg) hjn) q1 q2 V;trivial
theorem DV {w0:Bs}{N:Nat}{E:Nat->Prop}{ops:List Oper}{st:St}{a:Act}(hi:atV F w0 N ops E own st a w):
  ∀ (m:Nat) (g:Nat×Bool),E g.1->oJ ops g.1->¬GOk ops a (some g)->gN ops st.t m g
 |0,_,_,_,_=>trivial
 |m+1,(j,want),hj,hrf,hg=>by
  have hg':¬yielded ops.toArray a.tmps j=some want:=hg;simp[gN,gW];cases Y:ops[j]? with
  |none=>simp
  |some o=>
   cases hd:o.dst with
   |none=>simp[hd]
   |some d=>
    simp[arK,hd];have W:=hi.slots d;have hy:∀ x,a.tmps.getD d undef=.bool x->yielded ops.toArray a.tmps j=some x:=λx O=>by
     refine(mZ _ _ _ _).2 ⟨o,d,Y,hd,?_⟩;simp[aqC]at O;grind [undef]
    split
    rename_i x O;rw[O]at W;have:=cV (F:=F) (own:=own) (w:=w) W;grind
    rename_i X b x O;rw[O]at W;have⟨q1,q2,q3⟩:=W;by_cases V:GOk ops a (some (X,b))
    have:=cV (q3 V);grind
    left;exact DV hi m (X,b) q1 q2 V;trivial
variable {w0:Bs}{N:Nat}
structure ati (F:Nat->Prop)(w0:Bs)(N:Nat)(own:Own)(st:St)(a:Act)(w:World):Prop where
 size:a.tmps.size=N
 defers:Dfr F w0 w a.defers
 hp:Hp F own w st.h
 fr:Fr w0 own w
 slots:∀ t,Rel F own w (lk t st.t) (a.tmps.getD t undef)
variable {st:St}{a:Act}{E:Nat->Prop}
theorem ati.start{own:Own}{w:World}(h:ati F w0 N own st a w)(ops:List Oper)(V:∀ k,¬E k):atV F w0 N ops E own st a w:=
 ⟨h.size,h.defers,h.hp,h.fr,λt=>zB (h.slots t),λk _ _ _ _ _ O=>(V k O).elim,λk _ _ _ O=>(V k O).elim,λk _ _ O=>(V k O).elim⟩
theorem NA (t:Nat):∀ l:List (Nat×SV),lk t (aug l)=match lk t l with| .gd .. =>.any|s=>s
 | [] =>rfl
 |(d,s)::r=>by
  have E:=NA t r;cases s <;>simp only[aug,lk] <;>(cases Nat.beq d t <;>simp only[cond_true,cond_false] <;>first|exact E|rfl)
theorem UK (h:List Ob)(t:Nat):∀ l:List (Nat×SV),lk t (SF h l)=Yd h (lk t l)
 | [] =>rfl
 |(d,s)::r=>by
  have E:=UK h t r;simp[SF,lk];grind
def Qa:∀ (h:List Ob) (id:Nat),aq (Bb h) id=afx (aq h id)
 | [],_=>rfl|o::_,0=>rfl|_::r,n+1=>Qa r n
theorem LV:∀ h:List Ob,(Bb h).length=h.length
 | [] =>rfl
 |_::r=>by simp[Bb,aqc,LV r]
theorem Yt {own:Own}{w:World}{h:List Ob}(E:Hp F own w h){s:SV}{v:Value}(hr:Rel F own w s v):Rel F own w (Yd h s) v:=by
 cases s with
 |os id=>
  simp[Yd];cases O:aq h id with
  |fwd n=>
   cases n with
   |none=>exact hr
   |some n=>
    cases hr with
    |os h1 h2=>
     have⟨hd',e0,e⟩:=E.at O rfl;rw[h1]at e0;cases e0;have⟨hd2,k1,k2,k3⟩:=e n rfl;rw[<-k2]at h2 |-;exact .os k1 h2
  |_=>exact hr
 |_=>exact hr
theorem ati.auN{own:Own}{w:World}(h:ati F w0 N own st a w):ati F w0 N own (Sx.auN st) a w:=by
 unfold Sx.auN;cases qB st.h with
 |false=>exact h
 |true=>
  refine⟨h.size,h.defers,⟨λid hd e=>?_,h.hp.atu,h.hp.apart,h.hp.inj,h.hp.lt,λid hd=>?_⟩,h.fr,λt=>?_⟩;show id< (Bb st.h).length;rw[LV];exact h.hp.dom id hd e;change dT (aq (Bb st.h) id)=false at hd;change ∃ hd,own id=some hd/\atY F own w hd (aq (Bb st.h) id);rw[Qa]at hd |-;cases E:aq st.h id with
  |fwd n=>rw[E]at hd;cases hd|dead=>rw[E]at hd;cases hd|_=>exact h.hp.at E rfl
  show Rel F own w (lk t (SF st.h st.t)) _;rw[UK];exact Yt h.hp (h.slots t)
variable {ops:List Oper}
theorem ati.finish{own:Own}{w:World}(h:atV F w0 N ops E own st a w):ati F w0 N own (Cr ops st) a w:=by
 refine ati.auN ?_;cases W:ops.any (·.guard.isSome)with
 |true=>
  refine⟨h.size,h.defers,h.hp,h.fr,λt=>?_⟩;have O:=h.slots t;show Rel F own w (lk t (aug st.t)) _;rw[NA];cases V:lk t st.t with
  |gd j b s=>exact .any _|_=>rw[V]at O;exact O
 |false=>
  refine⟨h.size,h.defers,h.hp,h.fr,λt=>?_⟩;have O:=h.slots t;show Rel F own w (lk t st.t) _;cases V:lk t st.t with
  |gd j b s=>
   rw[V]at O;have⟨_,⟨i,o,b',h1,h2⟩,_⟩:=O;grind
  |_=>rw[V]at O;exact O
theorem ati.aug{own:Own}{w:World}(h:atV F w0 N ops E own st a w):ati F w0 N own ⟨Sx.aug st.t,st.h⟩ a w:=by
 refine⟨h.size,h.defers,h.hp,h.fr,λt=>?_⟩;have O:=h.slots t;rw[NA];cases V:lk t st.t with
 |gd j b s=>exact .any _|_=>rw[V]at O;exact O
end
end Go.Sx
end
