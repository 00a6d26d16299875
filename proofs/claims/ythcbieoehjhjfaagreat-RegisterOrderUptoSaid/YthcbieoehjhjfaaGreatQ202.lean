/- Part of the proof that the law RegisterOrder returns true and leaves its arguments as they were, for all arguments of bulk at most 1048576 (the Upto form). -/
import Derived.Test.YthcbieoehjhjfaaGreatQ201
import Derived.Laws.Tables
import Derived.Laws.StructEq
import Derived.Laws.MakeOwn
import Derived.ChangeKeysEq
set_option linter.all false
set_option maxHeartbeats 4000000
set_option maxRecDepth 100000
section
namespace Go.Sx
open Go.RowKit
section
variable {P:Program}{F:Nat->Prop}{own:Own}{w:World}
theorem ll (k:IntKind)(n:Int):(asIntOf (.int k n)).run P w=.ok (k,n) w:=rfl
theorem jJ {t:TypeId}{e:TypeId}{ie:TypeInfo}(hd:P.underlying t=some (.slice e))(hie:P.info? e=some ie){b o n cap:Nat}{k:IntKind}{i:Int}(h0:0<=i)(h1:i.toNat<n):
  (Instr.indexAt t (.slice (some ⟨b,o,none⟩) n cap) (.int k i)).run P w=.ok (.pointer (some ⟨b,o+i.toNat*ie.size,none⟩)) w:=by
 simp only[Instr.indexAt,Sem.run_bind,ll,Result.andThen_ok,run_underlying hd,Sem.run_pure];rw[Sem.run_ite,if_pos (by omega)];simp[cm hie,il]
theorem qB {t:TypeId}{e:TypeId}{len:Nat}{ie:TypeInfo}(hd:P.underlying t=some (.array len e))(hie:P.info? e=some ie){b o:Nat}{k:IntKind}{i:Int}(hc:0<=i/\i< (len:Int)):
  (Instr.indexAt t (.pointer (some ⟨b,o,none⟩)) (.int k i)).run P w=.ok (.pointer (some ⟨b,o+i.toNat*ie.size,none⟩)) w:=by
 simp only[Instr.indexAt,Sem.run_bind,ll,Result.andThen_ok,run_underlying hd,Instr.sureAddr,Sem.run_pure];rw[Sem.run_ite,if_pos hc];simp[cm hie,il]
theorem BS {h:List Ob}(hp:Hp F own w h){t:TypeId}{ti te:TI}(ht:cr P t=some ti)(hte:cr P ti.elem=some te){s si:SV}{v vi:Value}{r:OR}
  (hr:Rel F own w s v) (hri:Rel F own w si vi) (he:d6 ti te.size h s si=r) (hne:r≠ .bad):
  ∃ c s',r=.chk c s'/\(c->∃ u,(Instr.indexAt t v vi).run P w=.ok u w/\Rel F own w s' u):=by
 obtain⟨i,d,z,hi,hd,hz,hq,rfl⟩:=aY ht;obtain⟨ie,de,ze,hie,hde,hze,hqe,hte'⟩:=aY hte;have hes:te.size=ie.size:=by rw[hte'];rfl
 have key:∀ k n,si=.v (.int k n)->∃ c s',r=.chk c s'/\(c->∃ u,(Instr.indexAt t v (.int k n)).run P w=.ok u w/\Rel F own w s' u):=by
  rintro k n rfl;have slice:(ci P t i d).isSlice=true->∃ e,d=.slice e/\P.info? e=some ie:=fun hs=>by
   cases d <;>simp[ci]at hs;exact⟨_,rfl,by simpa[ci]using hie⟩
  have arr:(ci P t i d).isArr=true->∃ len e,d=.array len e/\P.info? e=some ie/\(ci P t i d).len=len:=fun hs=>by
   cases d <;>simp[ci]at hs;exact⟨_,_,rfl,by simpa[ci]using hie,rfl⟩
  cases hr with
  |rs cf h0 h0' h1 h2=>
   rename_i kt l b o cap;simp only[d6]at he;cases hb:(ci P t i d).isSlice&&Nat.beq te.size (aa kt)with
   |false=>rw[hb]at he;exact absurd he.symm hne
   |true=>
    rw[hb]at he;simp only[cond_true]at he;simp only[Bool.and_eq_true]at hb;obtain⟨e,rfl,hie'⟩:=slice hb.1;have hsz:te.size=aa kt:=Nat.eq_of_beq_eq_true hb.2;refine⟨_,_,he.symm,fun hc=>⟨_,jJ hd hie' hc.1 (by omega),?_⟩⟩;have hlt:n.toNat<l.length:=by omega
    have:=Rel.ep (F:=F) (own:=own) (w:=w) (cells:=cellsOf kt (l.getD n.toNat (di kt))) (off:=0) (b:=b) (o:=o+n.toNat*aa kt) (cf n.toNat)
     (fun j s hj=>h1 n.toNat _ (jI hlt) j s hj) (fun j s hj=>h2 n.toNat _ (jI hlt) j s hj)
    rw[<-hes,hsz];exact this
  |rs0=>
   rename_i kt a cap;simp only[d6]at he;cases hb:(ci P t i d).isSlice&&Nat.beq te.size (aa kt)with
   |false=>rw[hb]at he;exact absurd he.symm hne
   |true=>
    rw[hb]at he;simp only[cond_true]at he;exact⟨_,_,he.symm,fun hc=>by simp at hc;omega⟩
  |os h1 h2=>
   rename_i id hdd;simp only[d6]at he;cases hb:(ci P t i d).isSlice with
   |false=>rw[hb]at he;exact absurd he.symm hne
   |true=>
    rw[hb]at he;simp only[cond_true]at he;obtain⟨e,rfl,hie'⟩:=slice hb;cases ho:ae h id with
    |row kt l=>
     rw[ho]at he;simp only[sB]at he;cases hbe:Nat.beq te.size (aa kt)with
     |false=>rw[hbe]at he;exact absurd he.symm hne
     |true=>
      rw[hbe]at he;simp only[cond_true]at he;obtain⟨hd',e0,e1⟩:=hp.at ho rfl;rw[h1]at e0;cases e0;refine⟨_,_,he.symm,fun hc=>?_⟩;rcases e1 with⟨a,q1,rfl,_⟩ | ⟨b,o,cap,cs,ty,q1,q2,q3,q4,q5,q6,q7⟩
      ·simp at hc;omega
      ·rw[q1];refine⟨_,jJ hd hie' hc.1 (by omega),?_⟩;have:=Rel.rp (F:=F) (own:=own) (w:=w) (sz:=te.size) (off:=0) (i:=n) h1 q1 (by omega);rw[<-hes];simpa using this
    |grid kt l=>
     rw[ho]at he;simp only[sB]at he;cases hbe:Nat.beq te.size 1 with
     |false=>rw[hbe]at he;exact absurd he.symm hne
     |true=>
      rw[hbe]at he;simp only[cond_true]at he;have hsz:=Nat.eq_of_beq_eq_true hbe;obtain⟨hd',e0,e1⟩:=hp.at ho rfl;rw[h1]at e0;cases e0;refine⟨_,_,he.symm,fun hc=>?_⟩;rcases e1 with⟨q1,rfl,_⟩ | ⟨b,o,cap,cs,ty,bs,q1,q2,q3,q4,q5,q6,q7,q8,q9⟩
      ·simp at hc;omega
      ·rw[q1];refine⟨_,jJ hd hie' hc.1 (by omega),?_⟩;have:=Rel.rp (F:=F) (own:=own) (w:=w) (sz:=1) (off:=0) (i:=n) h1 q1 (by omega);rw[<-hes,hsz];simpa using this
    |_=>rw[ho]at he;exact absurd he.symm hne
  |gr h1 h2 h3=>
   rename_i id q hdd;simp only[d6]at he;cases hb:(ci P t i d).isSlice with
   |false=>rw[hb]at he;exact absurd he.symm hne
   |true=>
    rw[hb]at he;simp only[cond_true]at he;obtain⟨e,rfl,hie'⟩:=slice hb;cases ho:ae h id with
    |grid kt l=>
     rw[ho]at he;simp only[vZ]at he;cases hbe:Nat.beq te.size (aa kt)with
     |false=>rw[hbe]at he;exact absurd he.symm hne
     |true=>
      rw[hbe]at he;simp only[cond_true]at he;obtain⟨hd',e0,e1⟩:=hp.at ho rfl;rw[h1]at e0;cases e0;refine⟨_,_,he.symm,fun hc=>?_⟩;rcases e1 with⟨_,_,q1,_⟩ | ⟨b,o,cap,cs,ty,bs,q1,q2,q3,q4,q5,q6,q7,q8,q9⟩
      ·rw[q1]at h2;simp at h2
      ·obtain⟨b1,k1,k2,k3,k4⟩:=q9.get h2;rcases k3 with⟨a,m1,m2,_⟩ | ⟨b2,o2,cap2,cs2,ty2,m1,m2,m3,m4,m5,m6,m7⟩
       ·rw[m2]at hc;simp at hc;omega
       ·subst m1;refine⟨_,jJ hd hie' hc.1 (by omega),?_⟩;have:=Rel.gp (F:=F) (own:=own) (w:=w) (sz:=te.size) (off:=0) (i:=q) (j:=n) h1 h2 (by omega);rw[<-hes];simpa using this
    |_=>rw[ho]at he;exact absurd he.symm hne
  |ls cf h0 h1 h2=>
   rename_i l b o cap;simp only[d6]at he;cases hb:(ci P t i d).isSlice&&Nat.beq te.size 1 with
   |false=>rw[hb]at he;exact absurd he.symm hne
   |true=>
    rw[hb]at he;simp only[cond_true]at he;simp only[Bool.and_eq_true]at hb;obtain⟨e,rfl,hie'⟩:=slice hb.1;have hsz:=Nat.eq_of_beq_eq_true hb.2;rw[dx]at he;cases hx:l[n.toNat]? with
    |none=>rw[hx]at he;exact absurd he.symm hne
    |some x=>
     rw[hx]at he;have hlt:=(List.getElem?_eq_some_iff.1 hx).1;refine⟨_,_,he.symm,fun hc=>⟨_,jJ hd hie' hc hlt,?_⟩⟩;have:=Rel.ep (F:=F) (own:=own) (w:=w) (cells:=[x]) (off:=0) (b:=b) (o:=o+n.toNat) (fun _=>cf n.toNat)
      (fun j s hj=>by cases j with
       |zero=>simp at hj;subst hj;exact h1 _ _ hx
       |succ j=>simp at hj) (fun j s hj=>by cases j with
       |zero=>simp at hj;subst hj;exact h2 _ _ hx
       |succ j=>simp at hj)
     rw[<-hes,hsz];simpa using this
  |ptr h1 h2=>
   simp only[d6]at he;cases hb:(ci P t i d).isArr with
   |false=>rw[hb]at he;exact absurd he.symm hne
   |true=>
    rw[hb]at he;simp only[cond_true]at he;obtain⟨len,e,rfl,hie',hl⟩:=arr hb;exact⟨_,_,he.symm,fun hc=>⟨_,qB hd hie' hc,by rw[<-hes];exact .ptr h1 h2⟩⟩
  |ep cf h1 h2=>
   simp only[d6]at he;cases hb:(ci P t i d).isArr with
   |false=>rw[hb]at he;exact absurd he.symm hne
   |true=>
    rw[hb]at he;simp only[cond_true]at he;obtain⟨len,e,rfl,hie',hl⟩:=arr hb;exact⟨_,_,he.symm,fun hc=>⟨_,qB hd hie' hc,by rw[<-hes,Nat.add_assoc];exact .ep cf h1 h2⟩⟩
  |rp h1 h2 h3=>
   simp only[d6]at he;cases hb:(ci P t i d).isArr with
   |false=>rw[hb]at he;exact absurd he.symm hne
   |true=>
    rw[hb]at he;simp only[cond_true]at he;obtain⟨len,e,rfl,hie',hl⟩:=arr hb;exact⟨_,_,he.symm,fun hc=>⟨_,qB hd hie' hc,by rw[<-hes,Nat.add_assoc];exact .rp h1 h2 h3⟩⟩
  |_=>simp only[d6]at he;exact absurd he.symm hne
 cases hri with
 |v=>
  cases vi with
  |int k n=>exact key k n rfl
  |_=>cases s <;>first|(simp only[d6]at he;exact absurd he.symm hne) |(exact absurd he.symm hne)
 |_=>cases s <;>first|(simp only[d6]at he;exact absurd he.symm hne) |(exact absurd he.symm hne)
theorem zk {k k':IntKind}(h:Nat.beq (kN k) (kN k')=true):k=k':=by
 cases k <;>cases k' <;>simp[kN]at h <;>rfl
theorem xL {op:BinOp}{k k':IntKind}(h:pc op k k'=true)(h1:op≠ .shl)(h2:op≠ .shr):k=k':=by
 cases op <;>simp only[pc]at h <;>first|exact zk h|exact absurd rfl h1|exact absurd rfl h2
theorem BT {op:BinOp}{k k':IntKind}{a b:Int}{s:SV}{ty:TypeId}(hs:pc op k k'=true)(h:lI op k a b=.val s):∃ u,(binOp op ty (.int k a) (.int k' b)).run P w=.ok u w/\s=.v u:=by
 by_cases h1:op=.shl
 ·subst h1;simp[lI]at h
 ·by_cases h2:op=.shr
  ·subst h2;simp[lI]at h
  ·obtain rfl:=xL hs h1 h2;cases op <;>simp[lI]at h <;>subst h <;>exact⟨_,by simp[binOp,Op.intArith,Op.intCmp,Op.intBits,MX,orI,MY,AC],rfl⟩
theorem BU {op:BinOp}{k k':IntKind}{a b:Int}{s:SV}{ty:TypeId}{c:Prop}(hs:pc op k k'=true)(h:lI op k a b=.chk c s)(hc:c):∃ u,(binOp op ty (.int k a) (.int k' b)).run P w=.ok u w/\s=.v u:=by
 by_cases ho:op=.shr
 ·subst ho;simp only[lI,OR.chk.injEq]at h;obtain⟨rfl,rfl⟩:=h;refine⟨.int k (gD k a b),?_,rfl⟩;simp only[binOp];unfold Op.shift;rw[if_neg (Int.not_lt.2 hc)];rfl
 ·by_cases h1:op=.shl
  ·subst h1;simp only[lI,OR.chk.injEq]at h;obtain⟨rfl,rfl⟩:=h;refine⟨.int k (MW k a b),?_,rfl⟩;simp only[binOp];unfold Op.shift;rw[if_neg (Int.not_lt.2 hc)];rfl
  ·obtain rfl:=xL hs h1 ho;cases op <;>simp only[lI,OR.chk.injEq,reduceCtorEq]at h <;>first|exact absurd rfl ho|exact absurd rfl h1|(obtain⟨rfl,rfl⟩:=h;exact⟨_,by simp[binOp,Op.intDiv,hc],rfl⟩)
theorem pn {k k':Tag}(h:Nat.beq (o9 k) (o9 k')=true):k=k':=by
 have h':=Nat.eq_of_beq_eq_true h;cases k <;>cases k' <;>first|rfl|(simp[o9]at h';done)
theorem rk (op:BinOp)(t:TypeId)(x y:Operand)(k k':IntKind)(a b:Int):(eqGuard op t x y (.int k a) (.int k' b)).run P w=.ok () w:=by
 cases op <;>simp[eqGuard]
theorem zl {op:BinOp}{k k':IntKind}{a b:Int}{r:OR}(h:IM op (.v (.int k a)) (.v (.int k' b))=r)(hr:r≠ .bad):pc op k k'=true/\r=lI op k a b:=by
 unfold IM at h;simp only at h;cases hb:pc op k k' with
 |false=>simp[hb]at h;exact absurd h.symm hr
 |true=>simp[hb]at h;exact⟨rfl,h.symm⟩
end
def RelL (F:Nat->Prop)(own:Own)(w:World)(l:List SV)(vs:Array Value):Prop:=vs.size=l.length/\∀ (j:Nat) (s:SV),l[j]? =some s->Rel F own w s (vs.getD j undef)
section
variable {P:Program}{F:Nat->Prop}{own:Own}{w:World}
theorem RelL.mono {own':Own}{w':World}(g:Goes F own w own' w'){l:List SV}{vs:Array Value}(h:RelL F own w l vs):RelL F own' w' l vs:=⟨h.1,fun j s hj=>(h.2 j s hj).mono g⟩
theorem uO (off:Nat):∀ (l:List Value) (k:Nat) (cs:Array Value),off+k+l.length<=cs.size->
  ((l.zipIdx k).foldl (fun(cs:Array Value) (x:Value×Nat) =>cs.setIfInBounds (off+x.2) x.1) cs).size=cs.size/\
  ∀ j,((l.zipIdx k).foldl (fun(cs:Array Value) (x:Value×Nat) =>cs.setIfInBounds (off+x.2) x.1) cs)[j]? =if off+k<=j/\j<off+k+l.length then l[j - off - k]? else cs[j]?
 | [],k,cs,_=>by
  refine⟨by simp,fun j=>?_⟩;simp only[List.zipIdx_nil,List.foldl_nil,List.length_nil];rw[if_neg (by omega)]
 |x::xs,k,cs,h=>by
  simp only[List.length_cons]at h;obtain⟨h1,h2⟩:=uO off xs (k+1) (cs.setIfInBounds (off+k) x) (by simp;omega);simp only[List.zipIdx_cons,List.foldl_cons];refine⟨by rw[h1];simp,fun j=>?_⟩;rw[h2];by_cases hj:off+(k+1)<=j/\j<off+(k+1)+xs.length
  ·rw[if_pos hj,if_pos (by simp;omega),show j - off - k=(j - off - (k+1))+1 by omega,List.getElem?_cons_succ]
  ·rw[if_neg hj,Array.getElem?_setIfInBounds];by_cases hjo:off+k=j
   ·subst hjo;rw[if_pos rfl,if_pos (by omega),if_pos (by simp)];simp
   ·rw[if_neg hjo,if_neg (by simp;omega)]
theorem xM (v:Value)(off:Nat)(cs:Array Value)(h:off+v.cells.size<=cs.size):
  (v.cells.zipIdx.foldl (fun cs (c,j) =>cs.setIfInBounds (off+j) c) cs).size=cs.size/\
  ∀ j,(v.cells.zipIdx.foldl (fun cs (c,j) =>cs.setIfInBounds (off+j) c) cs)[j]? =if off<=j/\j<off+v.cells.size then v.cells[j - off]? else cs[j]?:=by
 have:=uO off v.cells.toList 0 cs (by simpa using h);rw[<-Array.foldl_toList,Array.toList_zipIdx];simpa using this
theorem gl {vs ws:Array Value}{i j:Nat}(h:vs[i]? =ws[j]?):vs.getD i undef=ws.getD j undef:=by
 simp only[Array.getD_eq_getD_getElem?,h]
theorem r7 {place place':Nat->Option (Nat×Nat)}(hpl:∀ i,place' i=place i):∀ (ps:List (Nat×SV)) (vps:List (Nat×Value)) (cells l:List SV) (vs:Array Value),RelL F own w cells vs->
  (ps.map (·.1)=vps.map (·.1))->(∀ (j:Nat) (x:Nat×SV) (y:Nat×Value),ps[j]? =some x->vps[j]? =some y->Rel F own w x.2 y.2)->gi place cells ps=some l->
  ∃ vs',Instr.fill place' vs vps=some vs'/\RelL F own w l vs'
 | [],[],cells,l,vs,hr,_,_,h=>by
  simp[gi]at h;subst h;exact⟨vs,rfl,hr⟩
 | [],_::_,_,_,_,_,h,_,_=>by simp at h
 |_::_,[],_,_,_,_,h,_,_=>by simp at h
 |(i,s)::ps,(i',v)::vps,cells,l,vs,hr,hm,hrel,h=>by
  simp only[List.map_cons,List.cons.injEq]at hm;obtain⟨rfl,hm⟩:=hm;have h0:Rel F own w s v:=hrel 0 _ _ rfl rfl;simp only[gi]at h;cases hp:place i with
  |none=>simp[hp]at h
  |some os=>
   obtain⟨off,size⟩:=os;cases hf:jf s with
   |none=>simp[hp,hf]at h
   |some xs=>
    simp only[hp,hf]at h;cases hb:Nat.beq (sz xs) size&&Nat.ble (off+size) (sz cells)with
    |false=>rw[hb]at h;simp at h
    |true=>
     rw[hb]at h;simp only[cond_true]at h;simp only[Bool.and_eq_true,kl]at hb;have e1:xs.length=size:=Nat.eq_of_beq_eq_true hb.1;have e2:off+size<=cells.length:=nbl hb.2;obtain⟨f1,f2⟩:=sQ h0 hf;have hle:off+v.cells.size<=vs.size:=by rw[hr.1];omega
     obtain⟨g1,g2⟩:=xM v off vs hle;have hr':RelL F own w (setCells cells off xs) (v.cells.zipIdx.foldl (fun cs (c,j) =>cs.setIfInBounds (off+j) c) vs):=by
      refine⟨by rw[g1,ik];exact hr.1,fun j x hj=>?_⟩;rw[iM _ _ _ (by omega)]at hj;by_cases hjr:off<=j/\j<off+xs.length
      ·rw[if_pos hjr]at hj;have:=f2 _ _ hj
       rwa[gl (j:=j - off) (ws:=v.cells) (by rw[g2,if_pos (by omega)])]
      ·rw[if_neg hjr]at hj;have:=hr.2 _ _ hj
       rwa[gl (j:=j) (ws:=vs) (by rw[g2,if_neg (by omega)])]
     obtain⟨vs',q1,q2⟩:=r7 hpl ps vps _ l _ hr' hm (fun j x y hx hy=>hrel (j+1) x y hx hy) h;refine⟨vs',?_,q2⟩;simp only[Instr.fill,hpl,hp];rw[if_neg (by simp;omega)];exact q1
theorem iN {k:Kd}{s:SV}{v:Value}(h:Rel F own w s v):Rel F own w (xu k s) v:=by
 unfold xu;split
 ·have:=bo h;subst this;exact .rs0
 ·cases h;exact .rs0
 ·have:=bo h;subst this;exact .rm0
 ·exact h
theorem pr:∀ (ks:List Kd) (l:List SV),(oc ks l).length=l.length
 | [],l=>by simp[oc]
 |k::ks,[] =>by simp[oc]
 |k::ks,s::r=>by simp[oc,pr ks r]
theorem lL:∀ (ks:List Kd) (l:List SV) (j:Nat) (s:SV),(oc ks l)[j]? =some s->∃ s0,l[j]? =some s0/\(s=s0\/∃ k,s=xu k s0)
 | [],l,j,s,h=>⟨s,by simpa[oc]using h,.inl rfl⟩
 |k::ks,[],j,s,h=>by simp[oc]at h
 |k::ks,x::r,0,s,h=>by simp[oc]at h;exact⟨x,rfl,.inr ⟨k,h.symm⟩⟩
 |k::ks,x::r,j+1,s,h=>by simp[oc]at h;simpa using lL ks r j s h
theorem RelL.nrm {ks:List Kd}{l:List SV}{vs:Array Value}(h:RelL F own w l vs):RelL F own w (oc ks l) vs:=
 ⟨by rw[pr];exact h.1,fun j s hj=>by
  obtain⟨s0,e1,e2| ⟨k,e2⟩⟩:=lL _ _ _ _ hj
  ·subst e2;exact h.2 j _ e1
  ·subst e2;exact iN (h.2 j _ e1)⟩
theorem uP {place:Nat->Option (Nat×Nat)}:∀ (ps:List (Nat×SV)) (cells l:List SV),gi place cells ps=some l->l.length=cells.length
 | [],cells,l,h=>by simp[gi]at h;rw[h]
 |(i,v)::ps,cells,l,h=>by
  simp only[gi]at h;split at h
  ·rename_i off size vs _ _;cases hb:Nat.beq (sz vs) size&&Nat.ble (off+size) (sz cells)with
   |false=>rw[hb]at h;simp at h
   |true=>rw[hb]at h;simp only[cond_true]at h;rw[uP ps _ _ h,ik]
  ·cases h
theorem nN (v:Value):RelL F own w (svs v) v.cells:=by
 refine⟨by simp[svs],fun j s hj=>?_⟩;simp[svs]at hj;obtain⟨z,hz,rfl⟩:=hj;simp[hz];exact .v _
theorem xN {fs:List Field}:(fs.all fun f=>(P.info? f.type).isSome&&(P.underlying f.type).isSome)=true->
  fs.mapM (fun f=>(P.info? f.type).map fun i=>(f.offset,i.size))=some (fs.map fun f=>(f.offset,g8 P f.type)):=by
 induction fs with
 |nil=>intro _;rfl
 |cons f fs ih=>
  intro h;simp only[List.all_cons,Bool.and_eq_true]at h;obtain⟨i,hi⟩:=Option.isSome_iff_exists.1 h.1.1;have ih':=ih (by simpa using h.2);simp[List.mapM_cons,hi,ih',g8]
theorem Do {t:TypeId}{ti:TI}(ht:cr P t=some ti){ps:List (Nat×SV)}{vps:Array (Nat×Value)}{l:List SV}(hm:ps.map (·.1)=vps.toList.map (·.1))
  (hrel:∀ (j:Nat) (x:Nat×SV) (y:Nat×Value),ps[j]? =some x->vps.toList[j]? =some y->Rel F own w x.2 y.2)
  (h:(ti.isArr=true/\∃ te,cr P ti.elem=some te/\gi (fun i=>some (i*te.size,te.size)) ti.zero ps=some l)\/
     (ti.isArr=false/\ti.agg=true/\gi (fun i=>(nth ti.fields i).map fun f=>(f.1,f.2.1)) ti.zero ps=some l)):
  ∃ u,(Instr.build t vps).run P w=.ok u w/\Rel F own w (.agg l) u:=by
 obtain⟨i,d,z,hi,hd,hz,hq,rfl⟩:=aY ht;have hzero:(ci P t i d).zero=svs z:=by simp[ci,hz]
 rcases h with⟨ha,te,hte,hf⟩ | ⟨ha,hg,hf⟩
 ·obtain⟨ie,de,ze,hie,hde,hze,hqe,he⟩:=aY hte;cases d <;>simp[ci]at ha;rename_i len e;simp only[ci]at hie;rw[hzero]at hf;have hes:te.size=ie.size:=by rw[he];rfl
  obtain⟨vs',q1,q2⟩:=r7 (place':=fun i=>some (i*ie.size,ie.size)) (fun i=>by rw[hes]) ps vps.toList _ l z.cells (nN z) hm hrel hf;exact⟨.agg vs',run_build w t vps vs' (by simp only[Program.built,hi,hd,hz,hie];exact q1),.agg q2.1 q2.2⟩
 ·cases d with
  |struct fs=>
   rw[hzero]at hf;have hmp:=xN (P:=P) (fs:=fs.toList) (by simpa[mY]using hq);obtain⟨vs',q1,q2⟩:=r7 (place':=fun i=>(fs.toList.map fun f=>(f.offset,g8 P f.type)).toArray[i]?) (fun i=>by
    simp[ci,dx];rfl) ps vps.toList _ l z.cells (nN z) hm hrel hf
   exact⟨.agg vs',run_build w t vps vs' (by simp only[Program.built,hi,hd,hz,hmp];exact q1),.agg q2.1 q2.2⟩
  |array len e=>simp[ci]at ha
  |_=>simp[ci,fJ,hd]at hg
theorem xO (z:List SV)(hz:0<z.length):∀ (n i:Nat),(rN n z)[i]? =if i<n*z.length then z[i % z.length]? else none
 |0,i=>by simp[rN]
 |n+1,i=>by
  rw[rN,List.getElem?_append];by_cases hi:i<z.length
  ·rw[if_pos hi,if_pos (by rw[Nat.succ_mul];omega),Nat.mod_eq_of_lt hi]
  ·rw[if_neg hi,xO z hz n];rw[Nat.succ_mul];by_cases hj:i - z.length<n*z.length
   ·rw[if_pos hj,if_pos (by omega)];congr 1
    rw[<-Nat.mod_eq_sub_mod (by omega)]
   ·rw[if_neg hj,if_neg (by omega)]
theorem nj (z:List SV):∀ n,(rN n z).length=n*z.length
 |0=>by simp[rN]
 |n+1=>by rw[rN,List.length_append,nj z n,Nat.succ_mul];omega
theorem uQ {s:SV}(h:fit .s s=true): .v (.string (toS s))=s:=by
 cases s <;>simp only[fit,Bool.false_eq_true]at h;rename_i x;cases x <;>simp only[fit,Bool.false_eq_true]at h;rfl
theorem uR {s:SV}(h:fit .b s=true): .v (.bool (toB s))=s:=by
 cases s <;>simp only[fit,Bool.false_eq_true]at h;rename_i x;cases x <;>simp only[fit,Bool.false_eq_true]at h;rfl
theorem FX {k k':IntKind}(h:Nat.beq (kN k) (kN k')=true):k=k':=by
 cases k <;>cases k' <;>first|rfl|(simp[kN]at h;done)
theorem uS {k:IntKind}{s:SV}(h:fit (.n k) s=true): .v (.int k (toI s))=s:=by
 cases s <;>simp only[fit,Bool.false_eq_true]at h;rename_i x;cases x <;>simp only[fit,Bool.false_eq_true]at h;have:=FX h;subst this;rfl
theorem iO {k:Tag}{s:SV}(h:fit (.r k) s=true):∃ l,s=.rs k l:=by
 cases s <;>simp only[fit,Bool.false_eq_true]at h;rename_i k' l;have:=pn h;subst this;exact⟨l,rfl⟩
theorem zm {s:SV}(h:fit (.r .reach) s=true): .rs .reach (qq s)=s:=by obtain⟨l,rfl⟩:=iO h;rfl
theorem BV {s:SV}(h:fit (.r .farm) s=true): .rs .farm (sg s)=s:=by obtain⟨l,rfl⟩:=iO h;rfl
theorem BW {s:SV}(h:fit (.r .crop) s=true): .rs .crop (sh s)=s:=by obtain⟨l,rfl⟩:=iO h;rfl
theorem zn {s:SV}(h:fit (.r .right) s=true): .rs .right (qr s)=s:=by obtain⟨l,rfl⟩:=iO h;rfl
theorem BX {s:SV}(h:fit (.r .duty) s=true): .rs .duty (sj s)=s:=by obtain⟨l,rfl⟩:=iO h;rfl
theorem Dp {s:SV}(h:fit (.r .int) s=true): .rs .int (vV s)=s:=by obtain⟨l,rfl⟩:=iO h;rfl
theorem BY {s:SV}(h:fit (.r .well) s=true): .rs .well (sn s)=s:=by obtain⟨l,rfl⟩:=iO h;rfl
theorem BZ {s:SV}(h:fit (.r .part) s=true): .rs .part (so s)=s:=by obtain⟨l,rfl⟩:=iO h;rfl
theorem B3 {s:SV}(h:fit (.r .deed) s=true): .rs .deed (xp s)=s:=by obtain⟨l,rfl⟩:=iO h;rfl
theorem wn {s:SV}(h:fit (.r .holding) s=true): .rs .holding (re s)=s:=by obtain⟨l,rfl⟩:=iO h;rfl
theorem B4 {s:SV}(h:fit (.r .bool) s=true): .rs .bool (xq s)=s:=by obtain⟨l,rfl⟩:=iO h;rfl
theorem oO {s:SV}(h:fit (.r .registerTitle) s=true): .rs .registerTitle (ld s)=s:=by obtain⟨l,rfl⟩:=iO h;rfl
theorem Dq {s:SV}(h:fit (.r .fnc) s=true): .rs .fnc (Az s)=s:=by obtain⟨l,rfl⟩:=iO h;rfl
theorem B5 {s:SV}(h:fit (.r .tank) s=true): .rs .tank (xr s)=s:=by obtain⟨l,rfl⟩:=iO h;rfl
theorem uo {s:SV}(h:fit (.r .district) s=true): .rs .district (o_ s)=s:=by obtain⟨l,rfl⟩:=iO h;rfl
theorem zo {s:SV}(h:fit (.r .ratio) s=true): .rs .ratio (uJ s)=s:=by obtain⟨l,rfl⟩:=iO h;rfl
theorem xP {s:SV}(h:fit (.r .ratio2) s=true): .rs .ratio2 (sp s)=s:=by obtain⟨l,rfl⟩:=iO h;rfl
theorem zp {s:SV}(h:fit (.r .range) s=true): .rs .range (uK s)=s:=by obtain⟨l,rfl⟩:=iO h;rfl
theorem Dt {s:SV}(h:fit (.r .str) s=true): .rs .str (AA s)=s:=by obtain⟨l,rfl⟩:=iO h;rfl
theorem M9 {s:SV}(h:fit .f s=true):fnV (toF s)=s:=by
 unfold fit at h;split at h <;>first|rfl|simp_all
theorem jn {k:Kd}{ks:List Kd}{l:List SV}(h:lF (k::ks) l=true):∃ x r,l=x::r/\fit k x=true/\lF ks r=true:=by
 cases l with
 |nil=>simp[lF]at h
 |cons x r=>simp[lF]at h;exact⟨x,r,rfl,h.1,h.2⟩
theorem lM {l:List SV}(h:lF [] l=true):l=[]:=by
 cases l with
 |nil=>rfl
 |cons x r=>simp[lF]at h
theorem jK {k:Tag}{l:List SV}{x:k.T}(h:lG k l=some x):cellsOf k x=l:=by
 unfold lG at h;cases hf:lF (b9 k) l with
 |false=>simp[hf]at h
 |true=>
  simp only[hf,cond_true,Option.some.injEq]at h;subst h;cases k <;>simp only[b9]at hf <;>
   (repeat (obtain⟨_,_,rfl,_,hf⟩:=jn hf)) <;>(obtain rfl:=lM hf) <;>
   simp_all [cellsOf,mkE,at0,uQ,uS,uR,M9,zm,BV,BW,zn,BX,Dp,BY,BZ,B3,wn,B4,oO,Dq,B5,uo,zo,xP,zp,Dt
   ]
theorem gG {k:Tag}{l:List SV}{x:k.T}(h:iI k l=some x):cellsOf k x=oc (b9 k) l:=jK h
theorem sR {k:Tag}{l:List SV}{x:k.T}(h:iI k l=some x){vs:Array Value}(hr:RelL F own w l vs):RelL F own w (cellsOf k x) vs:=by
 rw[gG h];exact hr.nrm
theorem zq {k:Tag}{l:List SV}{x:k.T}(h:iI k l=some x):l.length=aa k:=by
 rw[<-aQ k x,gG h,pr]
theorem nO {k:Tag}(x:k.T):iI k (cellsOf k x)=some x:=by
 cases k <;>first|rfl|(cases x <;>rfl)
theorem rl {k:Tag}{x y:k.T}(h:cellsOf k x=cellsOf k y):x=y:=by
 have:=nO x;rw[h,nO y]at this;simpa using this.symm
theorem ow (k:Tag):0<aa k:=by cases k <;>simp[aa]
theorem sS {k:Tag}{size:Nat}(hs:size=aa k):∀ (n:Nat) (l:List SV) (xs:List k.T),kg k size n l=some xs->
  xs.length=n/\∀ (i:Nat) (x:k.T),xs[i]? =some x->∀ (j:Nat) (s:SV),(cellsOf k x)[j]? =some s->∃ s0,l[i*size+j]? =some s0/\(s=s0\/∃ q,s=xu q s0)
 |0,l,xs,h=>by
  simp[kg]at h;subst h;exact⟨rfl,fun i x hx=>by simp at hx⟩
 |n+1,l,xs,h=>by
  simp only[kg,wj,rZ]at h;cases he:iI k (l.take size)with
  |none=>simp[he]at h
  |some y=>
   cases hr:kg k size n (l.drop size)with
   |none=>simp[he,hr]at h
   |some ys=>
    simp only[he,hr,Option.some.injEq]at h;subst h;obtain⟨h1,h2⟩:=sS hs n _ _ hr;refine⟨by simp[h1],fun i x hx j s hj=>?_⟩;cases i with
    |zero=>
     simp at hx;subst hx;rw[gG he]at hj;obtain⟨s0,e1,e2⟩:=lL _ _ _ _ hj;rw[List.getElem?_take]at e1;split at e1
     ·exact⟨s0,by simpa using e1,e2⟩
     ·cases e1
    |succ i=>
     simp at hx;obtain⟨s0,e1,e2⟩:=h2 i x hx j s hj;rw[List.getElem?_drop]at e1;refine⟨s0,?_,e2⟩;rw[<-e1];congr 1;rw[Nat.succ_mul];omega
theorem xQ {t:TypeId}{i:TypeInfo}{e:TypeId}{ie:TypeInfo}{ze:Value}(hi:P.info? t=some i)(hd:P.underlying t=some (.slice e))(hie:P.info? e=some ie)(hze:ie.zero=some ze)(hzl:ze.cells.size=ie.size){n:Nat}{ps:List (Nat×SV)}{vps:Array (Nat×Value)}{l:List SV}
  (hm:ps.map (·.1)=vps.toList.map (·.1)) (hrel:∀ (j:Nat) (x:Nat×SV) (y:Nat×Value),ps[j]? =some x->vps.toList[j]? =some y->Rel F own w x.2 y.2)
  (hf:gi (fun i=>some (i*ie.size,ie.size)) (rN n (svs ze)) ps=some l) (hpos:0<ie.size) (hle:n*ie.size<=16777216):
  ∃ vs',(Instr.buildSlice t n vps).run P w=.ok (.slice (some ⟨w.heap.size,0,none⟩) n n) (w.alloc (.cells vs' e))/\RelL F own w l vs'/\vs'.size=n*ie.size:=by
 have hsl:(svs ze).length=ie.size:=by simp[svs,hzl]
 let cz:Array Value:=if n*ie.size=0 then #[]else ze.cells
 have hz0:RelL F own w (rN n (svs ze)) ((Array.range (n*ie.size)).map (cz[· % cz.size]!)):=by
  refine⟨by simp[nj,hsl],fun j s hj=>?_⟩;rw[xO _ (by omega)]at hj;by_cases hjn:j<n*(svs ze).length
  ·rw[if_pos hjn]at hj;rw[hsl]at hjn hj;have hn0:n*ie.size≠0:=by omega
   have hcz:cz=ze.cells:=by simp only[cz];rw[if_neg hn0]
   rw[hcz];have hm1:j % ze.cells.size<ze.cells.size:=Nat.mod_lt _ (by omega);have:=(nN (F:=F) (own:=own) (w:=w) ze).2 (j % ze.cells.size) s (by rw[hzl];exact hj);simp only[Array.getD_eq_getD_getElem?]at this |-;simp[hjn];rw[show ze.cells[j % ze.cells.size]! =ze.cells[j % ze.cells.size]'hm1 from getElem!_pos ze.cells _ hm1];simpa[hm1]using this
  ·rw[if_neg hjn]at hj;cases hj
 obtain⟨vs',q1,q2⟩:=r7 (place':=fun i=>some (i*ie.size,ie.size)) (fun i=>rfl) ps vps.toList _ l _ hz0 hm hrel hf;refine⟨vs',?_,q2,?_⟩
 ·simp only[Instr.buildSlice,Sem.run_bind,run_underlying hd,Result.andThen_ok,cm hie];have hle':¬ (n*ie.size > 2 ^ 24):=by omega
  simp only[hle',if_false];by_cases hn0:n*ie.size=0
  ·have hcz:cz= #[]:=by simp only[cz];rw[if_pos hn0]
   rw[hcz]at q1;rw[if_pos hn0];simp only[Sem.run_bind,Sem.run_pure,Result.andThen_ok,q1,newRow,run_newObj,World.alloc_eq]
  ·have hcz:cz=ze.cells:=by simp only[cz];rw[if_neg hn0]
   rw[hcz]at q1;rw[if_neg hn0];have hzv:(zeroValue e).run P w=.ok ze w:=by simp[zeroValue,typeInfo,hie,hze]
   simp only[Sem.run_bind,Sem.run_pure,Result.andThen_ok,hzv,q1,newRow,run_newObj,World.alloc_eq]
 ·have h1:=uP _ _ _ hf;rw[q2.1,h1,nj,hsl]
theorem newB {h:List Ob}(hp:Hp F own w h):¬bD F own w.heap.size:=by
 rintro (hf'| ⟨id,hd',hm',he'⟩)
 ·exact Nat.lt_irrefl _ (hp.foreign _ hf')
 ·exact Nat.lt_irrefl _ (hp.lt id hd' _ hm' he')
theorem I1 {h:List Ob}(hp:Hp F own w h){t:TypeId}{ti te:TI}(ht:cr P t=some ti)(hte:cr P ti.elem=some te){n:Nat}{ps:List (Nat×SV)}{vps:Array (Nat×Value)}
  (hm:ps.map (·.1)=vps.toList.map (·.1)) (hrel:∀ (j:Nat) (x:Nat×SV) (y:Nat×Value),ps[j]? =some x->vps.toList[j]? =some y->Rel F own w x.2 y.2) {r:OR}
  (hb:bsS ti te n ps=r) (hr:r≠ .bad):
  ∃ s cs ty u,r=.newr s/\(Instr.buildSlice t n vps).run P w=.ok u (w.alloc (.cells cs ty))/\Rel F own (w.alloc (.cells cs ty)) s u/\∀ (k:Tag) (xs:List k.T),s=.rs k xs->u=.slice (some ⟨w.heap.size,0,none⟩) xs.length xs.length/\xs.length*aa k<=cs.size/\xs.length<=bR/\RowAt F own w k xs 0 cs:=by
 obtain⟨i,d,z,hi,hd,hz,hq,rfl⟩:=aY ht;obtain⟨ie,de,ze,hie,hde,hze,hqe,he⟩:=aY hte;have hes:te.size=ie.size:=by rw[he];rfl
 have hezero:te.zero=svs ze:=by rw[he];simp[ci,hze]
 have hg:∀ cs ty,Goes F own w own (w.alloc (.cells cs ty)):=fun cs ty=>Goes.below F own (jG w _);have hnew:=newB hp;unfold bsS at hb;cases hn:Nat.beq n 0 with
 |true=>
  rw[hn]at hb;have hn0:=Nat.eq_of_beq_eq_true hn;subst hn0;simp only[cond_true]at hb;cases d with
  |slice e=>
   subst hb;have hps:ps=[]:=by
    cases ps with
    |nil=>rfl
    |cons _ _=>simp at hr
   simp only[ci]at hie;have hv:vps= #[]:=by
    subst hps;simp at hm;exact hm
   subst hv;subst hps;refine⟨_,#[],e,.slice (some ⟨w.heap.size,0,none⟩) 0 0,rfl,?_,.e0,fun _ _ e=>(by cases e)⟩;have he0:Array.map (fun(_:Nat) =>(default:Value)) (Array.range 0)= #[]:=Array.eq_empty_of_size_eq_zero (by simp);simp[Instr.buildSlice,run_underlying hd,cm hie,Instr.fill,newRow,World.alloc_eq,he0]
  |_=>simp[ci]at hb;exact absurd hb.symm hr
 |false=>
 rw[hn]at hb;simp only[cond_false]at hb;rw[hes]at hb;cases hf:gi (fun i=>some (i*ie.size,ie.size)) (rN n te.zero) ps with
 |none=>
  rw[hf]at hb;exfalso;unfold bsG at hb;cases htag:FJ te.tag with
  |none=>rw[htag]at hb;exact hr hb.symm
  |some k=>rw[htag]at hb;simp only at hb;cases hio:C3 ps <;>rw[hio]at hb <;>exact hr hb.symm
 |some l=>
 rw[hf]at hb;have typed:∀ k,bsT k (ci P t i d) te n (some l)=r->∃ s cs ty u,r=.newr s/\(Instr.buildSlice t n vps).run P w=.ok u (w.alloc (.cells cs ty))/\Rel F own (w.alloc (.cells cs ty)) s u/\∀ (k:Tag) (xs:List k.T),s=.rs k xs->u=.slice (some ⟨w.heap.size,0,none⟩) xs.length xs.length/\xs.length*aa k<=cs.size/\xs.length<=bR/\RowAt F own w k xs 0 cs:=by
  intro k hb;simp only[bsT]at hb;cases hc:Nat.beq te.size (aa k)&&(ci P t i d).isSlice&&Nat.ble (n*te.size) 16777216&&Nat.beq (sz te.zero) te.size with
  |false=>rw[hc]at hb;exact absurd hb.symm hr
  |true=>
  rw[hc]at hb;simp only[cond_true]at hb;simp only[Bool.and_eq_true,kl]at hc;obtain⟨⟨⟨c1,c2⟩,c3⟩,c4⟩:=hc;have c1:=Nat.eq_of_beq_eq_true c1;have c3:=nbl c3;have c4:=Nat.eq_of_beq_eq_true c4;cases hel:kg k te.size n l with
  |none=>rw[hel]at hb;exact absurd hb.symm hr
  |some xs=>
  rw[hel]at hb;simp only[CX]at hb;subst hb;cases d with
  |slice e=>
   simp only[ci]at hie hde;have hpos:0<te.size:=by rw[c1];exact ow k
   have hzl:ze.cells.size=ie.size:=by rw[<-hes,<-c4,hezero];simp[svs]
   rw[hezero]at hf;obtain⟨vs',q1,q2,q3⟩:=xQ hi hd hie hze hzl hm hrel hf (by omega) (by rw[<-hes];exact c3);obtain⟨x1,x2⟩:=sS c1 n l xs hel;refine⟨_,vs',e,_,rfl,q1,?_,?_⟩
   rotate_left
   ·intro k' xs' e';cases e';refine⟨by rw[x1],?_,by rw[x1];have:n<=n*te.size:=Nat.le_mul_of_pos_right n hpos;unfold bR;omega,fun i x hx j s hj=>?_⟩
    ·by_cases hz:xs.length=0
     ·rw[hz];simp
     ·obtain⟨q,hq⟩:∃ q,xs.length=q+1:=⟨xs.length - 1,by omega⟩;have hxq:xs[q]? =some (xs[q]'(by omega)):=List.getElem?_eq_getElem (by omega);have hsp:=ow k;have hcl:=aQ k (xs[q]'(by omega));have hj:(cellsOf k (xs[q]'(by omega)))[aa k - 1]? =some ((cellsOf k (xs[q]'(by omega)))[aa k - 1]'(by omega)):=List.getElem?_eq_getElem (by omega);obtain⟨s0,h1,_⟩:=x2 q _ hxq _ _ hj;rw[c1]at h1;have hlt:q*aa k+(aa k - 1) <vs'.size:=by rw[q2.1];exact(List.getElem?_eq_some_iff.1 h1).1
      rw[hq,Nat.succ_mul];omega
    ·obtain⟨s0,h1,h2⟩:=x2 i x hx j s hj;rw[c1]at h1;have hlt:i*aa k+j<vs'.size:=by rw[q2.1];exact(List.getElem?_eq_some_iff.1 h1).1
     have h3:=q2.2 _ _ h1;refine⟨vs'.getD (i*aa k+j) undef,by rw[Nat.zero_add];simp[Array.getD_eq_getD_getElem?,hlt],?_⟩;rcases h2 with rfl| ⟨q,rfl⟩
     ·exact h3
     ·exact iN h3
   have:=Rel.rs (F:=F) (own:=own) (w:=w.alloc (.cells vs' e)) (k:=k) (l:=xs) (b:=w.heap.size) (o:=0) (cap:=xs.length) (fun i j=>vs'.getD (i*aa k+j) undef) (Nat.le_refl _)
    (by rw[x1];have:n<=n*te.size:=Nat.le_mul_of_pos_right n hpos;unfold bR;omega)
    (fun i x hx j s hj=>⟨hnew,by
     obtain⟨s0,h1,_⟩:=x2 i x hx j s hj;rw[c1]at h1;have hlt:i*aa k+j<vs'.size:=by rw[q2.1];exact(List.getElem?_eq_some_iff.1 h1).1
     rw[Nat.zero_add,World.cell?_alloc_new];simp[hlt]⟩)
    (fun i x hx j s hj=>by
     obtain⟨s0,h1,h2⟩:=x2 i x hx j s hj;rw[c1]at h1;have h3:=(q2.2 _ _ h1).mono (hg vs' e);rcases h2 with rfl| ⟨q,rfl⟩
     ·exact h3
     ·exact iN h3)
   rw[x1]at this;exact this
  |_=>simp[ci]at c2
 have untyped:bsU (ci P t i d) te n (some l)=r->∃ s cs ty u,r=.newr s/\(Instr.buildSlice t n vps).run P w=.ok u (w.alloc (.cells cs ty))/\Rel F own (w.alloc (.cells cs ty)) s u/\∀ (k:Tag) (xs:List k.T),s=.rs k xs->u=.slice (some ⟨w.heap.size,0,none⟩) xs.length xs.length/\xs.length*aa k<=cs.size/\xs.length<=bR/\RowAt F own w k xs 0 cs:=by
  intro hb;simp only[bsU]at hb;cases hc:Nat.beq te.size 1&&(ci P t i d).isSlice&&Nat.ble (n*te.size) 16777216&&Nat.beq (sz te.zero) te.size with
  |false=>rw[hc]at hb;exact absurd hb.symm hr
  |true=>
  rw[hc]at hb;simp only[cond_true,lsS]at hb;simp only[Bool.and_eq_true,kl]at hc;obtain⟨⟨⟨c1,c2⟩,c3⟩,c4⟩:=hc;have c1:=Nat.eq_of_beq_eq_true c1;have c3:=nbl c3;have c4:=Nat.eq_of_beq_eq_true c4;cases hc2:Nat.beq (sz l) n&&mm l with
  |false=>rw[hc2]at hb;exact absurd hb.symm hr
  |true=>
  rw[hc2]at hb;simp only[cond_true]at hb;subst hb;simp only[Bool.and_eq_true,kl]at hc2;have hln:=Nat.eq_of_beq_eq_true hc2.1;cases d with
  |slice e=>
   simp only[ci]at hie hde;have hzl:ze.cells.size=ie.size:=by rw[<-hes,<-c4,hezero];simp[svs]
   rw[hezero]at hf;obtain⟨vs',q1,q2,q3⟩:=xQ hi hd hie hze hzl hm hrel hf (by omega) (by rw[<-hes];exact c3);refine⟨_,vs',e,_,rfl,q1,?_,fun _ _ e=>(by cases e)⟩;have:=Rel.ls (F:=F) (own:=own) (w:=w.alloc (.cells vs' e)) (l:=l) (b:=w.heap.size) (o:=0) (cap:=l.length) (fun j=>vs'.getD j undef) (Nat.le_refl _)
    (fun j s hj=>⟨hnew,by
     have hlt:j<vs'.size:=by rw[q2.1];exact(List.getElem?_eq_some_iff.1 hj).1
     rw[Nat.zero_add,World.cell?_alloc_new];simp[hlt]⟩)
    (fun j s hj=>(q2.2 _ _ hj).mono (hg vs' e))
   rw[hln]at this;exact this
  |_=>simp[ci]at c2
 unfold bsG at hb;cases htag:FJ te.tag with
 |none=>rw[htag]at hb;exact untyped hb
 |some k=>
  rw[htag]at hb;simp only at hb;cases ho:C3 ps with
  |true=>rw[ho]at hb;exact untyped hb
  |false=>rw[ho]at hb;exact typed k hb
end
structure Puts (b:Nat)(ty:TypeId)(cs':Array Value)(w w':World):Prop where
 here:w'.heap[b]? =some (.cells cs' ty (0,0))
 size:w'.heap.size=w.heap.size
 other:∀ k,k≠b->w'.heap[k]? =w.heap[k]?
 os:w'.os=w.os
 tape:w'.tape=w.tape
 output:w'.output=w.output
section
variable {P:Program}{F:Nat->Prop}{own:Own}{w:World}
theorem eu {b o:Nat}{ty:TypeId}:∀ (vs:List Value) (i:Nat) (w:World) (cs:Array Value),w.heap[b]? =some (.cells cs ty (0,0))->o+i+vs.length<=cs.size->(∀ v∈vs,v.oneCell'=true)->
  ∃ cs' w',(storeCells ⟨b,o,none⟩ vs i).run P w=.ok () w'/\Puts b ty cs' w w'/\cs'.size=cs.size/\∀ j,cs'[j]? =if o+i<=j/\j<o+i+vs.length then vs[j - (o+i)]? else cs[j]?
 | [],i,w,cs,hb,_,_=>by
  refine⟨cs,w,by simp[storeCells],⟨hb,rfl,fun _ _=>rfl,rfl,rfl,rfl⟩,rfl,fun j=>?_⟩;rw[if_neg (by simp)]
 |v::vs,i,w,cs,hb,hle,hone=>by
  simp only[List.length_cons]at hle;have hlt:o+i<cs.size:=by omega
  have hcell:w.cell? ⟨b,o+i,none⟩=some cs[o+i]:=by rw[bP hb];simp[hlt]
  have hrun:(store (Addr.add ⟨b,o,none⟩ i) v).run P w=.ok () (w.setCell ⟨b,o+i,none⟩ v):=by
   rw[il,run_store P w _ v _ (hone v (by simp)),hcell,gk hb];simp
  have hset:=setCell_eq_setRow w b (o+i) cs ty (0,0) v hb;have hb':(w.setCell ⟨b,o+i,none⟩ v).heap[b]? =some (.cells (cs.setIfInBounds (o+i) v) ty (0,0)):=by
   rw[hset];exact setRow_heap w b cs _ ty (0,0) hb
  obtain⟨cs',w',e1,e2,e3,e4⟩:=eu (o:=o) vs (i+1) _ _ hb' (by simp;omega) (fun v hv=>hone v (by simp[hv]));refine⟨cs',w',?_,⟨e2.here,by rw[e2.size];simp,fun k hk=>?_,by rw[e2.os,hset];rfl,by rw[e2.tape,hset];rfl,by rw[e2.output,hset];rfl⟩,by rw[e3];simp,fun j=>?_⟩
  ·rw[storeCells];simp only[Sem.run_bind,hrun,Result.andThen_ok];exact e1
  ·rw[e2.other k hk,hset];exact setRow_other w b k _ hk
  ·rw[e4];by_cases hj:o+(i+1)<=j/\j<o+(i+1)+vs.length
   ·rw[if_pos hj,if_pos (by simp;omega),show j - (o+i)=(j - (o+(i+1)))+1 by omega,List.getElem?_cons_succ]
   ·rw[if_neg hj,Array.getElem?_setIfInBounds];by_cases hjo:o+i=j
    ·subst hjo;rw[if_pos rfl,if_pos (by omega),if_pos (by simp)];simp
    ·rw[if_neg hjo,if_neg (by simp;omega)]
theorem Du {s:SV}{v:Value}(h:y7 s=true)(hr:Rel F own w s v):v.oneCell'=true:=by
 cases hr <;>first|rfl|(exact fK (by assumption)) |(simp[y7]at h;done) |(rename_i x;cases x <;>first|rfl|(simp[y7]at h;done)) |(cases v <;>first|rfl|(simp[y7]at h;done))
theorem rq:∀ {l:List SV},mm l=true->∀ (j:Nat) (s:SV),l[j]? =some s->y7 s=true
 | [],_,j,s,h=>by simp at h
 |x::r,h,0,s,hs=>by simp[mm]at h hs;subst hs;exact h.1
 |x::r,h,j+1,s,hs=>by simp[mm]at h hs;exact rq h.2 j s hs
theorem nP {t:TypeId}{ti:TI}(ht:cr P t=some ti){sx:SV}{vx:Value}(hrx:Rel F own w sx vx){xs:List SV}(hf:jf sx=some xs)(hsz:xs.length=ti.size)(hone:∀ (j:Nat) (s:SV),xs[j]? =some s->∀ v,Rel F own w s v->v.oneCell'=true)
  {b off:Nat} {cs:Array Value} {ty:TypeId} (hb:w.heap[b]? =some (.cells cs ty (0,0))) (hle:off+xs.length<=cs.size):
  ∃ cs' w',(Instr.storeAt t (.pointer (some ⟨b,off,none⟩)) vx).run P w=.ok () w'/\Puts b ty cs' w w'/\cs'.size=cs.size/\
   (∀ j,off<=j->j<off+xs.length->∃ u,cs'[j]? =some u/\∀ s,xs[j - off]? =some s->Rel F own w s u)/\(∀ j,¬ (off<=j/\j<off+xs.length)->cs'[j]? =cs[j]?):=by
 obtain⟨i,d,z,hi,hd',hz,hq,rfl⟩:=aY ht;obtain⟨f1,f2⟩:=sQ hrx hf;obtain⟨cs',w',q1,q2,q3,q4⟩:=eu (P:=P) (b:=b) (o:=off) (ty:=ty) vx.cells.toList 0 w cs hb (by simp;omega) (fun u hu=>by
  obtain⟨j,hj⟩:=List.getElem?_of_mem hu;have hjl:j<vx.cells.size:=by have:=(List.getElem?_eq_some_iff.1 hj).1;simpa using this
  have hxs:=List.getElem?_eq_getElem (l:=xs) (i:=j) (by omega);have:=hone j _ hxs _ (f2 j _ hxs);rw[Array.getElem?_toList]at hj;simpa[Array.getD_eq_getD_getElem?,hj]using this)
 have hsz2:vx.cells.size=i.size:=by rw[f1,hsz];rfl
 refine⟨cs',w',by simp[Instr.storeAt,Instr.sureAddr,storeVar,cm hi,hsz2,q1],q2,q3,fun j h1 h2=>?_,fun j h1=>?_⟩
 ·have hjl:j - off<vx.cells.size:=by omega
  refine⟨vx.cells[j - off],by rw[q4,if_pos (by simp;omega)];simp[hjl],fun s hs=>?_⟩;have:=f2 _ _ hs;simpa[Array.getD_eq_getD_getElem?,hjl]using this
 ·rw[q4,if_neg (by simp;omega)]
theorem Puts.goes {b:Nat}{ty:TypeId}{cs':Array Value}{w':World}(q:Puts b ty cs' w w')(hown:bD F own b):Goes F own w own w':=
 ⟨fun _ hd h=>⟨hd,h,.refl _⟩,fun k hk hn=>⟨hn,q.other k (fun e=>hn (e▸hown))⟩,by rw[q.size];exact Nat.le_refl _⟩
theorem RowAt.put {own':Own}{w':World}(g:Goes F own w own' w'){k:Tag}{l:List k.T}{o:Nat}{cs cs':Array Value}(h:RowAt F own w k l o cs){i off:Nat}(hi:i<l.length){xs:List SV}{x:k.T}(hx:iI k (setCells (cellsOf k (l.getD i (di k))) off xs)=some x)
  (hle:off+xs.length<=aa k)
  (hin:∀ j,o+i*aa k+off<=j->j<o+i*aa k+off+xs.length->∃ u,cs'[j]? =some u/\∀ s,xs[j - (o+i*aa k+off)]? =some s->Rel F own w s u)
  (hout:∀ j,¬ (o+i*aa k+off<=j/\j<o+i*aa k+off+xs.length)->cs'[j]? =cs[j]?):RowAt F own' w' k (l.set i x) o cs':=by
 intro i' y hy j s hj;rw[List.getElem?_set]at hy;have hjl:j<aa k:=by rw[<-aQ k y];exact(List.getElem?_eq_some_iff.1 hj).1
 by_cases hii:i=i'
 ·subst hii;rw[if_pos rfl,if_pos hi]at hy;simp only[Option.some.injEq]at hy;subst hy;rw[gG hx]at hj;obtain⟨s0,e1,e2⟩:=lL _ _ _ _ hj;rw[iM _ _ _ (by rw[aQ];exact hle)]at e1;have fin:∀ u,Rel F own w s0 u->Rel F own' w' s u:=fun u hu=>by
   rcases e2 with rfl| ⟨q,rfl⟩
   ·exact hu.mono g
   ·exact iN (hu.mono g)
  by_cases hjr:off<=j/\j<off+xs.length
  ·rw[if_pos hjr]at e1;obtain⟨u,h1,h2⟩:=hin (o+i*aa k+j) (by omega) (by omega);exact⟨u,h1,fin u (h2 s0 (by rw[show o+i*aa k+j - (o+i*aa k+off)=j - off by omega];exact e1))⟩
  ·rw[if_neg hjr]at e1;obtain⟨h1,h2⟩:=h.get hi e1;exact⟨_,by rw[hout _ (by omega)];exact h1,fin _ h2⟩
 ·rw[if_neg hii]at hy;obtain⟨u,h1,h2⟩:=h i' y hy j s hj;refine⟨u,?_,h2.mono g⟩;rw[hout]
  ·exact h1
  ·rcases Nat.lt_or_gt_of_ne hii with hlt|hlt
   ·have:(i+1)*aa k<=i'*aa k:=Nat.mul_le_mul_right _ hlt;rw[Nat.succ_mul]at this;omega
   ·have:(i'+1)*aa k<=i*aa k:=Nat.mul_le_mul_right _ hlt;rw[Nat.succ_mul]at this;omega
theorem AR {cap n i size off m o total:Nat}(h1:o+cap*size<=total)(h2:n<=cap)(h3:i<n)(h4:off+m<=size):o+i*size+off+m<=total:=by
 have h5:(i+1)*size<=cap*size:=Nat.mul_le_mul_right _ (by omega);rw[Nat.succ_mul]at h5;omega
theorem GridIn.put {own':Own}{w':World}(g:Goes F own w own' w'){k:Tag}{l':List k.T}{v:Value}{b:Nat}(hoth:∀ c,c≠b->w'.heap[c]? =w.heap[c]?):
  ∀ {l:List (List k.T)} {vs:List Value} {bs:List Nat} {i:Nat},GridIn F own w k l vs bs->bs.Nodup->vs[i]? =some v->(∀ b1,RowRel F own w k (l.getD i []) v b1->b∈b1)->(∀ b1,RowRel F own w k (l.getD i []) v b1->RowRel F own' w' k l' v b1)->GridIn F own' w' k (l.set i l') vs bs
 | [],[],bs,i,_,_,h,_,_=>by simp at h
 |l::ls,u::vs,bs,0,⟨b1,b2,h1,h0,h2,h3⟩,hn,h,hb,hr=>by
  simp at h;subst h;refine⟨b1,b2,h1,h0,hr b1 h2,h3.carry g.carries fun c hc=>hoth c fun e=>?_⟩;have:=hb b1 h2;rw[h1,List.nodup_append]at hn;exact hn.2.2 _ this _ hc e.symm
 |l::ls,u::vs,bs,i+1,⟨b1,b2,h1,h0,h2,h3⟩,hn,h,hb,hr=>by
  rw[h1]at hn;have hn':=hn;rw[List.nodup_append]at hn;have h':vs[i]? =some v:=by simpa using h
  obtain⟨b3,q1,q2,q3,q4⟩:=h3.get h';have hb3:=hb b3 (by simpa using q3);exact⟨b1,b2,h1,h0,h2.carry g.carries fun c hc=>hoth c fun e=>hn.2.2 _ hc _ (q4 b hb3) e,
   GridIn.put g hoth h3 hn.2.1 h' (fun b1 hb1=>hb b1 (by simpa using hb1)) fun b1 hb1=>hr b1 (by simpa using hb1)⟩
 | [],_::_,_,_,h,_,_,_,_=>h.elim
 |_::_,[],_,_,h,_,_,_,_=>h.elim
theorem uT {k:Tag}{l l':List SV}{x:k.T}{off:Nat}{xs:List SV}(hx:iI k (setCells l off xs)=some x)(hl:l.length=aa k)(hle:off+xs.length<=aa k)(j:Nat)(s:SV)(hj:xs[j]? =some s)(v:Value)(hv:Rel F own w s v):v.oneCell'=true:=by
 have hjl:=(List.getElem?_eq_some_iff.1 hj).1;have h1:(setCells l off xs)[off+j]? =some s:=by
  rw[iM _ _ _ (by omega),if_pos (by omega),show off+j - off=j by omega];exact hj
 have hc:=gG hx;have hlen:off+j< (cellsOf k x).length:=by rw[aQ];omega
 obtain⟨s1,h2⟩:∃ s1,(cellsOf k x)[off+j]? =some s1:=⟨_,List.getElem?_eq_getElem hlen⟩;have h3:=h2;rw[hc]at h3;obtain⟨s0,e1,e2⟩:=lL _ _ _ _ h3;rw[h1]at e1;simp only[Option.some.injEq]at e1;subst e1;have h4:Rel F own w s1 v:=by
  rcases e2 with e2| ⟨q,e2⟩
  ·rw[e2];exact hv
  ·rw[e2];exact iN hv
 exact fK (r6 h2 h4)
theorem B6 {h:List Ob}(hp:Hp F own w h){t:TypeId}{ti:TI}(ht:cr P t=some ti){s sx:SV}{v vx:Value}(hr:Rel F own w s v)(hrx:Rel F own w sx vx){r:OR}
  (he:jZ ti.size h s (jf sx)=r) (hne:r≠ .bad):
  ∃ ups,r=.eff True True ups .any/\∃ w',(Instr.storeAt t v vx).run P w=.ok () w'/\Step F own w (aD h ups) own w':=by
 cases hf:jf sx with
 |none=>rw[hf]at he;cases s <;>exact absurd he.symm hne
 |some xs=>
 rw[hf]at he;cases hr with
 |ptr h1 h2=>
  rename_i id off b hd;simp only[jZ]at he;cases hb:Nat.beq (sz xs) ti.size with
  |false=>rw[hb]at he;exact absurd he.symm hne
  |true=>
  rw[hb]at he;simp only[cond_true]at he;cases ho:ae h id with
  |cells l=>
   rw[ho]at he;simp only[y9]at he;cases hc:Nat.ble (off+sz xs) (sz l)&&mm xs with
   |false=>rw[hc]at he;exact absurd he.symm hne
   |true=>
   rw[hc]at he;simp only[cond_true]at he;subst he;simp only[Bool.and_eq_true,kl]at hc hb;have hsz:=Nat.eq_of_beq_eq_true hb;have hle:=nbl hc.1;obtain⟨hd',e0,b',cs,ty,e1,e2,e3,e4,e5⟩:=hp.at ho rfl;rw[h1]at e0;cases e0;rw[h2]at e1;cases e1;obtain⟨cs',w',q1,q2,q3,q4,q5⟩:=nP (P:=P) ht hrx hf hsz (fun j s hj v hv=>Du (rq hc.2 j s hj) hv) (off:=off) e3 (by omega);refine⟨_,rfl,w',q1,jm hp h1 (by simp[e2]) q2.size q2.other q2.os q2.tape q2.output _ fun g=>⟨b,cs',ty,h2,e2,q2.here,by rw[q3,e4,ik],fun j s hj=>?_⟩⟩;rw[iM _ _ _ hle]at hj;by_cases hjr:off<=j/\j<off+xs.length
   ·rw[if_pos hjr]at hj;obtain⟨u,k1,k2⟩:=q4 j hjr.1 hjr.2;have:=(k2 s hj).mono g;simpa[Array.getD_eq_getD_getElem?,k1]using this
   ·rw[if_neg hjr]at hj;have:=(e5 j s hj).mono g
    rwa[gl (j:=j) (ws:=cs) (by rw[q5 j hjr])]
  |_=>rw[ho]at he;exact absurd he.symm hne
 |rp h1 h2 h3=>
  rename_i szt id off n cap b o i hd;simp only[jZ]at he;cases hb:Nat.beq (sz xs) ti.size with
  |false=>rw[hb]at he;exact absurd he.symm hne
  |true=>
  rw[hb]at he;simp only[cond_true]at he;cases ho:ae h id with
  |row k l=>
   rw[ho]at he;simp only[y_]at he;cases hc:Nat.beq szt (aa k)&&Nat.ble (off+sz xs) szt with
   |false=>rw[hc]at he;exact absurd he.symm hne
   |true=>
   rw[hc]at he;simp only[cond_true]at he;simp only[Bool.and_eq_true,kl]at hc hb;have hsz:=Nat.eq_of_beq_eq_true hb;have hszt:=Nat.eq_of_beq_eq_true hc.1;have hle:=nbl hc.2;subst hszt;cases hx:iI k (setCells (cellsOf k (l.getD i.toNat (di k))) off xs)with
   |none=>rw[hx]at he;exact absurd he.symm hne
   |some x=>
   rw[hx]at he;simp only[y8]at he;subst he;obtain⟨hd',e0,e⟩:=hp.at ho rfl;rw[h1]at e0;cases e0;rcases e with⟨a,e1,_⟩ | ⟨b',o',cap',cs,ty,e1,e2,e3,e4,e5,e6,e7⟩
   ·rw[h2]at e1;cases e1;omega
   ·have e1':=e1;rw[h2]at e1;simp only[Value.slice.injEq,Option.some.injEq,Addr.mk.injEq]at e1;obtain⟨⟨rfl,rfl,_⟩,rfl,rfl⟩:=e1;obtain⟨cs',w',q1,q2,q3,q4,q5⟩:=nP (P:=P) ht hrx hf hsz (fun j s hj v hv=>uT (l':=[]) hx (aQ _ _) hle j s hj v hv) e3 (AR e4 e5 h3 hle);refine⟨_,rfl,w',q1,jm hp h1 (by simp[e2]) q2.size q2.other q2.os q2.tape q2.output _ fun g=>.inr ⟨b,o,cap,cs',ty,by simpa using e1',e2,q2.here,by rw[q3];exact e4,by simpa using e5,by simpa using e6,e7.put g h3 hx hle q4 q5⟩⟩
  |_=>rw[ho]at he;exact absurd he.symm hne
 |gp h1 h2 h3=>
  rename_i szt id off n cap b o i j hd;simp only[jZ]at he;cases hb:Nat.beq (sz xs) ti.size with
  |false=>rw[hb]at he;exact absurd he.symm hne
  |true=>
  rw[hb]at he;simp only[cond_true]at he;cases ho:ae h id with
  |grid k l=>
   rw[ho]at he;simp only[za]at he;cases hc:Nat.beq szt (aa k)&&Nat.ble (off+sz xs) szt with
   |false=>rw[hc]at he;exact absurd he.symm hne
   |true=>
   rw[hc]at he;simp only[cond_true]at he;simp only[Bool.and_eq_true,kl]at hc hb;have hsz:=Nat.eq_of_beq_eq_true hb;have hszt:=Nat.eq_of_beq_eq_true hc.1;have hle:=nbl hc.2;subst hszt;cases hx:iI k (setCells (cellsOf k ((l.getD i.toNat []).getD j.toNat (di k))) off xs)with
   |none=>rw[hx]at he;exact absurd he.symm hne
   |some x=>
   rw[hx]at he;simp only[v6]at he;subst he;obtain⟨hd',e0,e⟩:=hp.at ho rfl;rw[h1]at e0;cases e0;rcases e with⟨_,_,e1,_⟩ | ⟨b',o',cap',cs,ty,bs,e1,e2,e3,e4,e5,e6,e7,e8,e9⟩
   ·rw[e1]at h2;simp at h2
   ·obtain⟨b1,k1,k2,k3,k4⟩:=e9.get h2;have hrow:∀ b1,RowRel F own w k (l.getD i.toNat []) (.slice (some ⟨b,o,none⟩) n cap) b1->∃ cs ty,b1=[b]/\n=(l.getD i.toNat []).length/\w.heap[b]? =some (.cells cs ty (0,0))/\o+cap*aa k<=cs.size/\(l.getD i.toNat []).length<=cap/\(l.getD i.toNat []).length<=bR/\RowAt F own w k (l.getD i.toNat []) o cs:=by
     rintro b1 (⟨a,m1,_⟩ | ⟨b2,o2,cap2,cs2,ty2,m1,m2,m3,m4,m5,m6,m7⟩)
     ·cases m1;omega
     ·simp only[Value.slice.injEq,Option.some.injEq,Addr.mk.injEq]at m1;obtain⟨⟨rfl,rfl,_⟩,rfl,rfl⟩:=m1;exact⟨cs2,ty2,m2,rfl,m3,m4,m5,m6,m7⟩
    obtain⟨cs2,ty2,m1,rfl,m3,m4,m5,m6,m7⟩:=hrow b1 k3;obtain⟨cs',w',q1,q2,q3,q4,q5⟩:=nP (P:=P) ht hrx hf hsz (fun j s hj v hv=>uT (l':=[]) hx (aQ _ _) hle j s hj v hv) m3 (AR m4 m5 h3 hle);have hbb:b∈hd.bs:=by rw[e2];exact List.mem_cons_of_mem _ (k4 b (by simp[m1]))
    have hne:b'≠b:=fun e=>by
     rw[e2,List.nodup_cons]at e3;exact e3.1 (e▸k4 b (by simp[m1]))
    refine⟨_,rfl,w',q1,jm hp h1 hbb q2.size q2.other q2.os q2.tape q2.output _ fun g=>.inr ⟨b',o',cap',cs,ty,bs,by simpa using e1,e2,e3,by rw[q2.other b' hne];exact e4,by simpa using e5,by simpa using e6,by simpa using e7,e8,?_⟩⟩;rw[e2,List.nodup_cons]at e3;refine e9.put g q2.other e3.2 h2 (fun b1 hb1=>?_) fun b1 hb1=>?_
    ·obtain⟨_,_,rfl,_⟩:=hrow b1 hb1;simp
    ·obtain⟨cs3,ty3,rfl,_,n3,n4,n5,n6,n7⟩:=hrow b1 hb1;rw[m3]at n3;cases n3;exact .inr ⟨b,o,cap,cs',ty2,by simp,rfl,q2.here,by rw[q3];exact m4,by simpa using m5,by simpa using m6,m7.put g h3 hx hle q4 q5⟩
  |_=>rw[ho]at he;exact absurd he.symm hne
 |_=>simp only[jZ]at he;exact absurd he.symm hne
theorem lm {t:TypeId}(hb:br (P.underlying t)≠0){xs:Array Value}{n:Nat}(hn:n<xs.size):(part t xs n).run P w=.ok (xs.getD n undef) w:=by
 have:(isAgg t).run P w=.ok false w:=by
  unfold isAgg;cases hd:P.underlying t with
  |none=>rw[hd]at hb;simp[br]at hb
  |some d=>rw[hd]at hb;cases d <;>simp[br]at hb <;>simp[run_underlying hd]
 unfold part;simp only[Sem.run_bind,this,Result.andThen_ok,Bool.false_eq_true,if_false];simp[hn]
theorem zr {t:TypeId}{sx sy:SV}{vx vy:Value}(hx:Rel F own w sx vx)(hy:Rel F own w sy vy){b:Bool}(h:eqV (br (P.underlying t)) sx sy=some b)(d:Nat):(Op.equalIn (d+1) t vx vy).run P w=.ok b w:=by
 unfold eqV at h;split at h
 ·rename_i k a k' c;have ex:=bo hx;have ey:=bo hy;subst ex;subst ey;cases hb:Nat.beq (br (P.underlying t)) 1&&Nat.beq (kN k) (kN k')with
  |false=>rw[hb]at h;cases h
  |true=>
   rw[hb]at h;simp only[cond_true,Option.some.injEq]at h;subst h;simp only[Bool.and_eq_true]at hb;have hk:=zk hb.2;subst hk;have hc:=Nat.eq_of_beq_eq_true hb.1;cases hd:P.underlying t with
   |none=>rw[hd]at hc;simp[br]at hc
   |some dd=>
    rw[hd]at hc;cases dd <;>simp[br]at hc;simp[Op.equalIn,run_underlying hd]
 ·rename_i a c;have ex:=bo hx;have ey:=bo hy;subst ex;subst ey;cases hb:Nat.beq (br (P.underlying t)) 2 with
  |false=>rw[hb]at h;cases h
  |true=>
   rw[hb]at h;simp only[cond_true,Option.some.injEq]at h;subst h;have hc:=Nat.eq_of_beq_eq_true hb;cases hd:P.underlying t with
   |none=>rw[hd]at hc;simp[br]at hc
   |some dd=>
    rw[hd]at hc;cases dd <;>simp[br]at hc;simp[Op.equalIn,run_underlying hd]
 ·rename_i a c;have ex:=bo hx;have ey:=bo hy;subst ex;subst ey;cases hb:Nat.beq (br (P.underlying t)) 3 with
  |false=>rw[hb]at h;cases h
  |true=>
   rw[hb]at h;simp only[cond_true,Option.some.injEq]at h;subst h;have hc:=Nat.eq_of_beq_eq_true hb;cases hd:P.underlying t with
   |none=>rw[hd]at hc;simp[br]at hc
   |some dd=>
    rw[hd]at hc;cases dd <;>simp[br]at hc;simp[Op.equalIn,run_underlying hd]
 ·cases h
theorem nk {d:Nat}:∀ (fs:List Field) (n:Nat) (lx ly:List SV) (xs ys:Array Value) (b:Bool),eqFields P n fs=true->eqL (fs.map fun f=>br (P.underlying f.type)) lx ly=some b->n+lx.length<=xs.size->n+ly.length<=ys.size->
  (∀ (j:Nat) (s:SV),lx[j]? =some s->Rel F own w s (xs.getD (n+j) undef))->(∀ (j:Nat) (s:SV),ly[j]? =some s->Rel F own w s (ys.getD (n+j) undef))->
  (Op.eqFields (d+1) xs ys fs).run P w=.ok b w
 | [],n,lx,ly,xs,ys,b,_,h,_,_,_,_=>by
  cases lx <;>cases ly <;>simp[eqL]at h;subst h;simp[Op.eqFields]
 |f::fs,n,lx,ly,xs,ys,b,hf,h,h1,h2,h3,h4=>by
  simp only[eqFields,Bool.and_eq_true]at hf;obtain⟨⟨⟨q1,q2⟩,q3⟩,q4⟩:=hf;have hn:f.name≠ "_":=by simpa using q1
  have ho:f.offset=n:=Nat.eq_of_beq_eq_true q2;have hc:br (P.underlying f.type)≠0:=by have:=nbl q3;omega
  cases lx with
  |nil=>simp[eqL]at h
  |cons x lx=>
   cases ly with
   |nil=>simp[eqL]at h
   |cons y ly=>
    simp only[List.map_cons,eqL]at h;cases hv:eqV (br (P.underlying f.type)) x y with
    |none=>rw[hv]at h;simp[oI]at h
    |some b1=>
     cases hl:eqL (fs.map fun f=>br (P.underlying f.type)) lx ly with
     |none=>rw[hv,hl]at h;simp[oI]at h
     |some b2=>
      rw[hv,hl]at h;simp only[oI,Option.some.injEq]at h;subst h;simp only[List.length_cons]at h1 h2;have e1:=lm (P:=P) (w:=w) hc (xs:=xs) (n:=n) (by omega);have e2:=lm (P:=P) (w:=w) hc (xs:=ys) (n:=n) (by omega);have e3:=zr (P:=P) (h3 0 x rfl) (h4 0 y rfl) hv d;simp only[Nat.add_zero]at e3;simp only[Op.eqFields,if_pos hn,ho,Sem.run_bind,e1,e2,Result.andThen_ok,e3];cases b1 with
      |false=>simp
      |true=>
       have ih:=nk (d:=d) fs (n+1) lx ly xs ys b2 q4 hl (by omega) (by omega) (fun j s hj=>by have:=h3 (j+1) s (by simpa using hj);rwa[show n+(j+1)=n+1+j by omega]at this) (fun j s hj=>by have:=h4 (j+1) s (by simpa using hj);rwa[show n+(j+1)=n+1+j by omega]at this);simp only[Bool.not_true,Bool.false_eq_true,if_false,Bool.true_and];exact ih
theorem xR {t:TypeId}{fs:Array Field}(hd:P.underlying t=some (.struct fs)){lx ly:List SV}{xs ys:Array Value}(hx:RelL F own w lx xs)(hy:RelL F own w ly ys){b:Bool}
  (hc:iq P t (.struct fs)≠[]) (h:eqL (iq P t (.struct fs)) lx ly=some b):(Op.equal t (.agg xs) (.agg ys)).run P w=.ok b w/\P.eqGuardType P.depth t=false:=by
 simp only[iq]at hc h;cases hb:!P.stoodInHeld t&& !P.eqGuardType P.depth t&&eqFields P 0 fs.toList with
 |false=>rw[hb]at hc;exact absurd rfl hc
 |true=>
  rw[hb]at h;simp only[cond_true]at h;simp only[Bool.and_eq_true,Bool.not_eq_true']at hb;obtain⟨⟨q1,q2⟩,q3⟩:=hb;refine⟨?_,q2⟩;have hfo:P.fieldsOf t=fs:=by simp[Program.fieldsOf,hd]
  unfold Op.equal Op.maxDepth;rw[run_equalIn_struct w 9999 t xs ys (by rw[hfo];exact hd) q1,hfo];exact nk (P:=P) (d:=9998) fs.toList 0 lx ly xs ys b q3 h (by rw[hx.1];omega) (by rw[hy.1];omega) (fun j s hj=>by simpa using hx.2 j s hj) (fun j s hj=>by simpa using hy.2 j s hj)
theorem AS:∀ {as bs:List Nat} {l m:List SV} {b:Bool},eqL (as++bs) l m=some b->∃ b1 b2,eqL as (l.take as.length) (m.take as.length)=some b1/\eqL bs (l.drop as.length) (m.drop as.length)=some b2/\b=(b1&&b2)/\as.length<=l.length/\as.length<=m.length
 | [],bs,l,m,b,h=>⟨true,b,by simp[eqL],by simpa using h,by simp,by simp,by simp⟩
 |c::as,bs,[],m,b,h=>by simp[eqL]at h
 |c::as,bs,x::l,[],b,h=>by simp[eqL]at h
 |c::as,bs,x::l,y::m,b,h=>by
  simp only[List.cons_append,eqL]at h;cases hv:eqV c x y with
  |none=>rw[hv]at h;simp[oI]at h
  |some b0=>
   cases hl:eqL (as++bs) l m with
   |none=>rw[hv,hl]at h;simp[oI]at h
   |some b3=>
    rw[hv,hl]at h;simp only[oI,Option.some.injEq]at h;obtain⟨b1,b2,e1,e2,e3,e4,e5⟩:=AS hl;exact⟨b0&&b1,b2,by simp[eqL,hv,e1,oI],by simpa using e2,by rw[<-h,e3,Bool.and_assoc],by simpa using e4,by simpa using e5⟩
theorem Dv {t:TypeId}{n:Nat}{lx ly:List SV}{xs ys:Array Value}{b:Bool}(h:eqL (g9 P t) lx ly=some b)(hp:0< (g9 P t).length)(hlx:lx.length=(g9 P t).length)(hly:ly.length=(g9 P t).length)(h1:n+lx.length<=xs.size)(h2:n+ly.length<=ys.size)
  (h3:∀ (j:Nat) (s:SV),lx[j]? =some s->Rel F own w s (xs.getD (n+j) undef)) (h4:∀ (j:Nat) (s:SV),ly[j]? =some s->Rel F own w s (ys.getD (n+j) undef)) (d:Nat):
  ∃ vx vy,(part t xs n).run P w=.ok vx w/\(part t ys n).run P w=.ok vy w/\(Op.equalIn (d+2) t vx vy).run P w=.ok b w:=by
 by_cases hst:∃ gs,P.underlying t=some (.struct gs)
 ·obtain⟨gs,hd⟩:=hst;have e:g9 P t=bif !P.stoodInHeld t&&eqFields P 0 gs.toList&&Nat.beq (g8 P t) gs.size&&(P.info? t).isSome then gs.toList.map fun f=>br (P.underlying f.type)else []:=by unfold g9;rw[hd]
  cases hb:!P.stoodInHeld t&&eqFields P 0 gs.toList&&Nat.beq (g8 P t) gs.size&&(P.info? t).isSome with
  |false=>rw[e,hb]at hp;simp at hp
  |true=>
   rw[hb]at e;simp only[cond_true]at e;simp only[Bool.and_eq_true,Bool.not_eq_true']at hb;obtain⟨⟨⟨q1,q2⟩,q3⟩,q4⟩:=hb;have hsz:=Nat.eq_of_beq_eq_true q3;obtain⟨i,hi⟩:=Option.isSome_iff_exists.1 q4;have hszi:i.size=gs.size:=by rw[<-hsz];simp[g8,hi]
   have hlen:(g9 P t).length=gs.size:=by rw[e];simp
   have hpart:∀ zs:Array Value,(part t zs n).run P w=.ok (.agg (zs.extract n (n+i.size))) w:=fun zs=>by
    unfold part;simp only[Sem.run_bind,nM hd,Result.andThen_ok,fJ,hd,if_true,cm hi,Sem.run_pure]
   have hget:∀ (zs:Array Value) (l:List SV),l.length=gs.size->n+l.length<=zs.size->(∀ (j:Nat) (s:SV),l[j]? =some s->Rel F own w s (zs.getD (n+j) undef))->∀ (j:Nat) (s:SV),l[j]? =some s->Rel F own w s ((zs.extract n (n+i.size)).getD (0+j) undef):=fun zs l hl hz hr j s hj=>by
    have hjl:j<l.length:=(List.getElem?_eq_some_iff.1 hj).1;have:=hr j s hj
    rwa[gl (j:=n+j) (ws:=zs) (by rw[Nat.zero_add,Array.getElem?_extract,if_pos (by omega)])]
   refine⟨_,_,hpart xs,hpart ys,?_⟩;have hfo:P.fieldsOf t=gs:=by simp[Program.fieldsOf,hd]
   rw[run_equalIn_struct w (d+1) t _ _ (by rw[hfo];exact hd) q1,hfo];rw[e]at h;rw[hlen]at hlx hly;exact nk (P:=P) (d:=d) gs.toList 0 lx ly _ _ b q2 h (by simp;omega) (by simp;omega) (hget xs lx hlx h1 h3) (hget ys ly hly h2 h4)
 ·have e:g9 P t=bif Nat.blt 0 (br (P.underlying t))then [br (P.underlying t)]else []:=by
   unfold g9;split
   ·rename_i gs hd;exact absurd ⟨gs,hd⟩ hst
   ·rfl
  cases hb:Nat.blt 0 (br (P.underlying t))with
  |false=>rw[e,hb]at hp;simp at hp
  |true=>
   rw[hb]at e;simp only[cond_true]at e;have hc:br (P.underlying t)≠0:=by have:=nbl hb;omega
   rw[e]at h hlx hly;match lx,ly,hlx,hly with
   | [x],[y],_,_=>
    simp only[eqL]at h;cases hv:eqV (br (P.underlying t)) x y with
    |none=>rw[hv]at h;simp[oI]at h
    |some b1=>
     rw[hv]at h;simp only[oI,Option.some.injEq,Bool.and_true]at h;subst h;simp only[List.length_cons,List.length_nil]at h1 h2;have e3:=zr (P:=P) (h3 0 x rfl) (h4 0 y rfl) hv (d+1);simp only[Nat.add_zero]at e3;exact⟨_,_,lm (P:=P) hc (by omega),lm (P:=P) hc (by omega),e3⟩
theorem pt {d:Nat}:∀ (fs:List Field) (n:Nat) (lx ly:List SV) (xs ys:Array Value) (b:Bool),lH P n fs=true->eqL (fs.flatMap fun f=>g9 P f.type) lx ly=some b->n+lx.length<=xs.size->n+ly.length<=ys.size->
  (∀ (j:Nat) (s:SV),lx[j]? =some s->Rel F own w s (xs.getD (n+j) undef))->(∀ (j:Nat) (s:SV),ly[j]? =some s->Rel F own w s (ys.getD (n+j) undef))->
  (Op.eqFields (d+2) xs ys fs).run P w=.ok b w
 | [],n,lx,ly,xs,ys,b,_,h,_,_,_,_=>by
  cases lx <;>cases ly <;>simp[eqL]at h;subst h;simp[Op.eqFields]
 |f::fs,n,lx,ly,xs,ys,b,hf,h,h1,h2,h3,h4=>by
  simp only[lH,Bool.and_eq_true]at hf;obtain⟨⟨⟨q1,q2⟩,q3⟩,q4⟩:=hf;have hn:f.name≠ "_":=by simpa using q1
  have ho:f.offset=n:=Nat.eq_of_beq_eq_true q2;have hc:0< (g9 P f.type).length:=nbl q3;simp only[List.flatMap_cons]at h;obtain⟨b1,b2,e1,e2,e3,e4,e5⟩:=AS h;subst e3;obtain⟨vx,vy,p1,p2,p3⟩:=Dv (P:=P) (n:=n) e1 hc (by simp;omega) (by simp;omega) (by simp;omega) (by simp;omega) (fun j s hj=>h3 j s (by rw[List.getElem?_take]at hj;split at hj;exact hj;cases hj)) (fun j s hj=>h4 j s (by rw[List.getElem?_take]at hj;split at hj;exact hj;cases hj)) d;simp only[Op.eqFields,if_pos hn,ho,Sem.run_bind,p1,p2,Result.andThen_ok,p3];cases b1 with
  |false=>simp
  |true=>
   have ih:=pt (d:=d) fs (n+(g9 P f.type).length) (lx.drop (g9 P f.type).length) (ly.drop (g9 P f.type).length) xs ys b2 q4 e2 (by simp;omega) (by simp;omega) (fun j s hj=>by rw[List.getElem?_drop]at hj;have:=h3 _ s hj;rwa[show n+((g9 P f.type).length+j)=n+(g9 P f.type).length+j by omega]at this) (fun j s hj=>by rw[List.getElem?_drop]at hj;have:=h4 _ s hj;rwa[show n+((g9 P f.type).length+j)=n+(g9 P f.type).length+j by omega]at this);simp only[Bool.not_true,Bool.false_eq_true,if_false,Bool.true_and];exact ih
theorem B7 {t:TypeId}{d:TypeDesc}(hd:P.underlying t=some d){lx ly:List SV}{xs ys:Array Value}(hx:RelL F own w lx xs)(hy:RelL F own w ly ys){b:Bool}
  (hc:vW P t d≠[]) (h:eqL (vW P t d) lx ly=some b):(Op.equal t (.agg xs) (.agg ys)).run P w=.ok b w/\P.eqGuardType P.depth t=false:=by
 cases d with
 |struct fs=>
  simp only[vW]at hc h;cases hb:!P.stoodInHeld t&& !P.eqGuardType P.depth t&&lH P 0 fs.toList with
  |false=>rw[hb]at hc;exact absurd rfl hc
  |true=>
   rw[hb]at h;simp only[cond_true]at h;simp only[Bool.and_eq_true,Bool.not_eq_true']at hb;obtain⟨⟨q1,q2⟩,q3⟩:=hb;refine⟨?_,q2⟩;have hfo:P.fieldsOf t=fs:=by simp[Program.fieldsOf,hd]
   unfold Op.equal Op.maxDepth;rw[run_equalIn_struct w 9999 t xs ys (by rw[hfo];exact hd) q1,hfo];exact pt (P:=P) (d:=9997) fs.toList 0 lx ly xs ys b q3 h (by rw[hx.1];omega) (by rw[hy.1];omega) (fun j s hj=>by simpa using hx.2 j s hj) (fun j s hj=>by simpa using hy.2 j s hj)
 |_=>exact absurd rfl hc
end
section
variable {P:Program}{F:Nat->Prop}{own:Own}{w:World}
def Own.move (own:Own)(K:List Nat)(nx:Nat)(hd:Hd):Own:=fun j=>if j=nx then some hd else if j∈K then(own j).map (fun hd=>{ hd with bs:=[]})else own j
theorem fI (nx:Nat)(ob:Ob):∀ (K:List Nat) (h:List Ob) (j:Nat),nx ∉ K->(∀ id∈K,id<h.length)->
  ae (aD h (K.map (fun id=>(id,Ob.dead))++[(nx,ob)])) j=(if j=nx then ob else if j∈K then .dead else ae h j)/\h.length<=(aD h (K.map (fun id=>(id,Ob.dead))++[(nx,ob)])).length/\nx< (aD h (K.map (fun id=>(id,Ob.dead))++[(nx,ob)])).length
 | [],h,j,_,_=>by
  simp only[List.map_nil,List.nil_append,aD,List.not_mem_nil,if_false];refine⟨by rw[b8];by_cases e:nx=j <;>simp[e,eq_comm],?_,?_⟩ <;>rw[bv] <;>split <;>omega
 |id::K,h,j,hn,hl=>by
  simp only[List.mem_cons,not_or]at hn;have hid:=hl id (by simp);have hlen:(bf h id Ob.dead).length=h.length:=by rw[bv,if_pos hid]
  obtain⟨q1,q2,q3⟩:=fI nx ob K (bf h id .dead) j hn.2 (fun i hi=>by rw[hlen];exact hl i (by simp[hi]));simp only[List.map_cons,List.cons_append,aD];refine⟨?_,by rw[hlen]at q2;exact q2,q3⟩;rw[q1,b8];by_cases e1:j=nx
  ·simp[e1]
  ·by_cases e2:j=id
   ·subst e2;simp[e1]
   ·have e3:¬id=j:=fun e=>e2 e.symm;simp only[e1,if_false,List.mem_cons,e2,false_or,e3]
theorem eM {h:List Ob}(hp:Hp F own w h){nx:Nat}(hn:NxOk own h nx){w':World}(K:List Nat)(hK:∀ id∈K,∃ hd,own id=some hd)(hd':Hd)(ob:Ob)
  (hbs:∀ b∈hd'.bs,(∃ id∈K,∃ hd,own id=some hd/\b∈hd.bs)\/(w.heap.size<=b/\b<w'.heap.size))
  (hold:∀ b,b<w.heap.size->(¬ ∃ id∈K,∃ hd,own id=some hd/\b∈hd.bs)->w'.heap[b]? =w.heap[b]?) (hsz:w.heap.size<=w'.heap.size) (q2:w'.os=w.os) (q3:w'.tape=w.tape) (q4:w'.output=w.output)
  (hob:∀ own',Goes F own w own' w'->ObRel F own' w' hd' ob) (hnd:bZ ob=false:=by rfl):Step F own w (aD h (K.map (fun id=>(id,Ob.dead))++[(nx,ob)])) (own.move K nx hd') w':=by
 have hnK:nx ∉ K:=fun hm=>by obtain⟨hd,e⟩:=hK nx hm;rw[hn.none]at e;cases e
 have hKl:∀ id∈K,id<h.length:=fun id hm=>by obtain⟨hd,e⟩:=hK id hm;exact hp.dom _ _ e
 have fr:Fr { w:=w,own:=own} (own.move K nx hd') w':=by
  refine Fr.of_step (fun id hd h1=>?_) (fun id hd b h1 h2=>?_) (fun b hb hnb=>hold b hb fun⟨id,_,hd,e1,e2⟩ =>hnb ⟨id,hd,e1,e2⟩) hsz q2 q3 q4
  ·have hne:id≠nx:=fun e=>by rw[e,hn.none]at h1;cases h1
   simp only[Own.move,if_neg hne];by_cases hm:id∈K
   ·exact⟨{ hd with bs:=[]},by simp[hm,h1],rfl,rfl,rfl⟩
   ·exact⟨hd,by simp[hm,h1],.refl _⟩
  ·simp only[Own.move]at h1;by_cases e:id=nx
   ·rw[if_pos e]at h1;cases h1;rcases hbs b h2 with⟨id',_,hd2,e1,e2⟩ |h3
    ·exact .inl ⟨id',hd2,e1,e2⟩
    ·exact .inr h3.1
   ·rw[if_neg e]at h1;by_cases hm:id∈K
    ·rw[if_pos hm]at h1;cases ho:own id with
     |none=>rw[ho]at h1;simp at h1
     |some hd2=>rw[ho]at h1;simp at h1;subst h1;simp at h2
    ·rw[if_neg hm]at h1;exact .inl ⟨id,hd,h1,h2⟩
 refine⟨hp.upd fr.goes (fun id=>id=nx\/id∈K) (fI nx ob K h 0 hnK hKl).2.1 (fun id hid=>?_) (fun id hd hid h1=>?_) (fun id hid hd=>?_),fr,fun id h1 h2=>?_⟩
 rotate_left 3
 ·rw[(fI nx ob K h id hnK hKl).1]at h2;simp only[Own.move];by_cases e:id=nx
  ·subst e;rw[if_pos rfl,hnd]at h2;cases h2
  ·rw[if_neg e];split
   ·rw[h1];rfl
   ·exact h1
 ·simp only[not_or]at hid;refine⟨by simp[Own.move,hid.1,hid.2],by rw[(fI nx ob K h id hnK hKl).1,if_neg hid.1,if_neg hid.2],fun hd b h1 h2=>hold b (hp.lt id hd b h1 h2) ?_⟩;rintro⟨id',hm,hd2,e1,e2⟩;exact hid.2 (hp.inj id id' hd hd2 b h1 e1 h2 e2▸hm)
 ·simp only[Own.move]at h1;by_cases e:id=nx
  ·subst e;rw[if_pos rfl]at h1;cases h1;refine⟨(fI _ ob K h 0 hnK hKl).2.2,fun b hb=>?_⟩;rcases hbs b hb with⟨id',hm,hd2,e1,e2⟩ |h3
   ·refine⟨Nat.lt_of_lt_of_le (hp.lt id' hd2 b e1 e2) hsz,hp.apart id' hd2 b e1 e2,fun j hj hne h4 h5=>?_⟩;simp only[Own.move,if_neg hne]at h4;by_cases hm2:j∈K
    ·rw[if_pos hm2]at h4;cases ho:own j with
     |none=>rw[ho]at h4;simp at h4
     |some hd3=>rw[ho]at h4;simp at h4;subst h4;simp at h5
    ·rw[if_neg hm2]at h4;exact hm2 (hp.inj j id' hj hd2 b h4 e1 h5 e2▸hm)
   ·refine⟨h3.2,fun hf=>by have:=hp.foreign b hf;omega,fun j hj hne h4 h5=>?_⟩;simp only[Own.move,if_neg hne]at h4;by_cases hm2:j∈K
    ·rw[if_pos hm2]at h4;cases ho:own j with
     |none=>rw[ho]at h4;simp at h4
     |some hd3=>rw[ho]at h4;simp at h4;subst h4;simp at h5
    ·rw[if_neg hm2]at h4;have:=hp.lt j hj b h4 h5;omega
  ·rw[if_neg e]at h1;have hm:id∈K:=hid.resolve_left e;rw[if_pos hm]at h1;cases ho:own id with
   |none=>rw[ho]at h1;simp at h1
   |some hd2=>
    rw[ho]at h1;simp at h1;subst h1;exact⟨Nat.lt_of_lt_of_le (hKl id hm) (fI nx ob K h 0 hnK hKl).2.1,fun b hb=>by simp at hb⟩
 ·rw[(fI nx ob K h id hnK hKl).1]at hd |-;by_cases e:id=nx
  ·subst e;rw[if_pos rfl]at hd |-;exact⟨hd',by simp[Own.move],hob _ fr.goes⟩
  ·rw[if_neg e]at hd;have hm:id∈K:=hid.resolve_left e;rw[if_pos hm]at hd;cases hd
structure Src (P:Program)(F:Nat->Prop)(own:Own)(w:World)(k:Tag)(m:List k.T)(v:Value)(news:List Value):Prop where
 len:∃ a cap,v=.slice a m.length cap
 cells:∀ (w1:World),w1.heap=w.heap->(Builtin.firstCells (aa k) m.length v).run P w1=.ok news.toArray w1
 size:news.length=m.length*aa k
 rel:∀ (i:Nat) (x:k.T),m[i]? =some x->∀ (j:Nat) (s:SV),(cellsOf k x)[j]? =some s->∃ u,news[i*aa k+j]? =some u/\Rel F own w s u
theorem xS {n size p:Nat}(h:p<n*size):p / size<n/\p % size<size/\p / size*size+p % size=p:=by
 have hpos:0<size:=by
  rcases Nat.eq_zero_or_pos size with e|e
  ·subst e;simp at h
  ·exact e
 refine⟨(Nat.div_lt_iff_lt_mul hpos).2 h,Nat.mod_lt _ hpos,?_⟩;rw[Nat.mul_comm];exact Nat.div_add_mod p size
theorem Src.one {k:Tag}{m:List k.T}{v:Value}{news:List Value}(h:Src P F own w k m v news):∀ u∈news,u.oneCell'=true:=by
 intro u hu;obtain⟨p,hp⟩:=List.getElem?_of_mem hu;have hlt:=(List.getElem?_eq_some_iff.1 hp).1;rw[h.size]at hlt;obtain⟨h1,h2,h3⟩:=xS hlt;have hc:p % aa k< (cellsOf k (m.getD (p / aa k) (di k))).length:=by rw[aQ];exact h2
 obtain⟨u',e1,e2⟩:=h.rel _ _ (jI h1) _ _ (List.getElem?_eq_getElem hc);rw[h3,hp]at e1;simp only[Option.some.injEq]at e1;subst e1;exact fK (r6 (List.getElem?_eq_getElem hc) e2)
theorem zt {k:Tag}{l:List k.T}{b o cap:Nat}(hc:∀ (i:Nat) (x:k.T),l[i]? =some x->∀ (j:Nat) (s:SV),(cellsOf k x)[j]? =some s->∃ u,w.cell? ⟨b,o+i*aa k+j,none⟩=some u/\Rel F own w s u):
  ∃ news,Src P F own w k l (.slice (some ⟨b,o,none⟩) l.length cap) news:=by
 have key:∀ p,p<l.length*aa k->w.cell? ⟨b,o+p,none⟩=some ((w.cell? ⟨b,o+p,none⟩).getD undef):=by
  intro p hp;obtain⟨h1,h2,h3⟩:=xS hp;have hl:p % aa k< (cellsOf k (l.getD (p / aa k) (di k))).length:=by rw[aQ];exact h2
  obtain⟨u,e1,_⟩:=hc _ _ (jI h1) _ _ (List.getElem?_eq_getElem hl);rw[Nat.add_assoc,h3]at e1;rw[e1];rfl
 refine⟨(List.range (l.length*aa k)).map fun p=>(w.cell? ⟨b,o+p,none⟩).getD undef,⟨_,_,rfl⟩,fun w1 hw1=>?_,by simp,fun i x hi j s hj=>?_⟩
 ·refine run_firstCells_some w1 _ _ _ _ _ _ (by simp) fun j v hj=>?_;simp only[List.getElem?_map,Option.map_eq_some_iff]at hj;obtain⟨p,hp,rfl⟩:=hj;have hlt:j<l.length*aa k:=by have:=(List.getElem?_eq_some_iff.1 hp).1;simpa using this
  rw[List.getElem?_range hlt]at hp;simp only[Option.some.injEq]at hp;subst hp;rw[il,kD (w:=w) (by rw[hw1])];exact key j hlt
 ·obtain⟨u,e1,e2⟩:=hc i x hi j s hj;have hi':=(List.getElem?_eq_some_iff.1 hi).1;have hj':j<aa k:=by rw[<-aQ k x];exact(List.getElem?_eq_some_iff.1 hj).1
  have hlt:i*aa k+j<l.length*aa k:=by
   have:(i+1)*aa k<=l.length*aa k:=Nat.mul_le_mul_right _ hi';rw[Nat.succ_mul]at this;omega
  refine⟨u,?_,e2⟩;rw[List.getElem?_map,List.getElem?_range hlt];simp only[Option.map_some];rw[<-Nat.add_assoc,e1];rfl
theorem pu {k:Tag}{a:Option Addr}{cap:Nat}:Src P F own w k [] (.slice a 0 cap) []:=
 ⟨⟨_,_,rfl⟩,fun w1 _=>by cases a <;>simp[Builtin.firstCells,loadCells,loadCellsFrom],by simp,fun i x h=>by simp at h⟩
theorem kP {k k':Tag}{l:List k'.T}{m:List k.T}(h:oq k k' l=some m):∃ e:k'=k,m=e▸l:=by
 unfold oq at h;split at h
 ·rename_i e;simp at h;exact⟨e,h.symm⟩
 ·cases h
theorem wo {k:Tag}{l:List k.T}{v:Value}{bs:List Nat}(h:RowRel F own w k l v bs):∃ news,Src P F own w k l v news:=by
 rcases h with⟨a,rfl,rfl,_⟩ | ⟨b,o,cap,cs,ty,rfl,h2,h3,h4,h5,h6,h7⟩
 ·exact⟨[],pu⟩
 ·exact zt fun i x hi j s hj=>by
   obtain⟨u,e1,e2⟩:=h7 i x hi j s hj;exact⟨u,by rw[bP h3];exact e1,e2⟩
theorem jz {α:Type}{l:List α}{a b i:Nat}{x:α}(h:((l.take b).drop a)[i]? =some x):l[a+i]? =some x/\a+i<b:=by
 rw[List.getElem?_drop,List.getElem?_take]at h;split at h
 ·exact⟨h,by assumption⟩
 ·cases h
theorem Dw {k:Tag}{l:List k.T}{x:Value}{bs:List Nat}(h:RowRel F own w k l x bs){sz cap:Nat}{lo hi:Int}{a:Option Addr}(h2:I0 x sz lo hi a)(hz:sz=aa k):
  ∃ news,Src P F own w k ((l.take hi.toNat).drop lo.toNat) (.slice a (hi.toNat - lo.toNat) cap) news:=by
 have nil:hi.toNat<=lo.toNat->∃ news,Src P F own w k ((l.take hi.toNat).drop lo.toNat) (.slice a (hi.toNat - lo.toNat) cap) news:=fun hle=>by
  have e:(l.take hi.toNat).drop lo.toNat=[]:=List.drop_eq_nil_of_le (by simp;omega);rw[e,show hi.toNat - lo.toNat=0 by omega];exact⟨[],pu⟩
 rcases h2 with h2| ⟨b,o,n,c,rfl,h3,rfl⟩
 ·exact nil h2
 ·rcases h with⟨a,e,rfl,_⟩ | ⟨b',o',cap',cs,ty,e,q2,q3,q4,q5,q6,q7⟩
  ·cases e;exact nil (by omega)
  ·cases e;have hlen:((l.take hi.toNat).drop lo.toNat).length=hi.toNat - lo.toNat:=by simp;omega
   rw[<-hlen];exact zt fun i x hi' j s hj=>by
    obtain⟨e1,_⟩:=jz hi';obtain⟨u,g1,g2⟩:=q7 _ x e1 j s hj;refine⟨u,?_,g2⟩;rw[bP q3,hz,show o+lo.toNat*aa k+i*aa k+j=o+(lo.toNat+i)*aa k+j by rw[Nat.add_mul];omega];exact g1
theorem wq {h:List Ob}(hp:Hp F own w h){k:Tag}{s:SV}{v:Value}(hr:Rel F own w s v){m:List k.T}(hs:la k h s=some m):∃ news,Src P F own w k m v news:=by
 cases hr with
 |rs c h0 h0' h1 h2=>
  obtain⟨e,rfl⟩:=kP hs;subst e;exact zt fun i x hi j s hj=>⟨_,(h1 i x hi j s hj).2,h2 i x hi j s hj⟩
 |rs0=>
  obtain⟨e,rfl⟩:=kP hs;subst e;exact⟨[],pu⟩
 |e0=>simp[la]at hs;subst hs;exact⟨[],pu⟩
 |v x=>
  unfold la at hs;split at hs
  ·rename_i heq;cases heq
  ·rename_i heq;cases heq;simp at hs;subst hs;exact⟨[],pu⟩
  ·rename_i heq;cases heq
  ·rename_i heq;cases heq
  ·rename_i heq;cases heq
  ·cases hs
 |os h1 h2=>
  rename_i id hd;simp only[la]at hs;cases ho:ae h id with
  |row k' l=>
   rw[ho]at hs;simp only[BG]at hs;obtain⟨e,rfl⟩:=kP hs;subst e;obtain⟨hd',e0,e1⟩:=hp.at ho rfl;rw[h1]at e0;cases e0;exact wo e1
  |_=>rw[ho]at hs;cases hs
 |vw h1 h2 hcap3=>
  rename_i sz id cap lo hi hd a;simp only[la]at hs;cases ho:ae h id with
  |row k' l=>
   rw[ho]at hs;simp only[FM]at hs;cases hb:Nat.beq sz (aa k')with
   |false=>rw[hb]at hs;cases hs
   |true=>
    rw[hb]at hs;simp only[cond_true]at hs;obtain⟨e,rfl⟩:=kP hs;subst e;obtain⟨hd',e0,e1⟩:=hp.at ho rfl;rw[h1]at e0;cases e0;exact Dw e1 h2 (Nat.eq_of_beq_eq_true hb)
  |_=>rw[ho]at hs;cases hs
 |_=>simp[la]at hs
theorem j7 (z:Array Value)(n:Nat):(Builtin.zeroCells z n).size=n*z.size:=by simp[Builtin.zeroCells]
theorem nq {t t2 ty e e2:TypeId}{i:TypeInfo}{z:Value}(ht:P.underlying t=some (.slice e))(ht2:P.underlying t2=some (.slice e2))(hi:P.info? e=some i)(hz:i.zero=some z){a0:Option Addr}{n cap:Nat}{olds:List Value}
  (holds:∀ w1:World,w1.heap=w.heap->(Builtin.firstCells i.size n (.slice a0 n cap)).run P w1=.ok olds.toArray w1) {v:Value} {m:Nat} {news:List Value} (hv:∃ a c,v=.slice a m c) (hnews:∀ w1:World,w1.heap=w.heap->(Builtin.firstCells i.size m v).run P w1=.ok news.toArray w1)
  (hg:cap<n+m) (h63:n+m<=9223372036854775807) (hfit:(n+m)*i.bytes<=fY):
  (Builtin.append_ #[t,t2] ty #[.slice a0 n cap,v]).run P w=.ok (.slice (some ⟨w.heap.size,0,none⟩) (n+m) (grownCap w (n+m) cap e)) (w.drew.alloc (.cells (olds.toArray++news.toArray++Builtin.zeroCells z.cells (grownCap w (n+m) cap e - (n+m))) e)):=by
 obtain⟨a,c,rfl⟩:=hv;have hn:¬ (n+m<=cap):=by omega
 have h63':¬ (9223372036854775807< ((n:Int)+(m:Int))):=by omega
 have h48':¬ (281474976710656<Builtin.nextslicecap (n+m) cap*i.bytes):=by have:=growslice_fits hg hfit;omega
 have h1:=holds w.drew rfl;have h2:=hnews w.drew rfl;simp[Builtin.append_,run_underlying ht,run_underlying ht2,sizeOf,typeInfo,zeroValue,hi,hz,Builtin.lenOf,hn,h63',h48',Question.forced,h1,h2,newRow,grownCap];congr 2
 apply Array.ext';simp[List.append_assoc]
theorem nr {t t2 ty e e2:TypeId}{i:TypeInfo}(ht:P.underlying t=some (.slice e))(ht2:P.underlying t2=some (.slice e2))(hi:P.info? e=some i){b o n cap:Nat}{v:Value}{m:Nat}{news:List Value}(hv:∃ a c,v=.slice a m c)(hnews:(Builtin.firstCells i.size m v).run P w=.ok news.toArray w)
  (hg:n+m<=cap) {w':World} (hst:(storeCells ⟨b,o+n*i.size,none⟩ news 0).run P w=.ok () w'):
  (Builtin.append_ #[t,t2] ty #[.slice (some ⟨b,o,none⟩) n cap,v]).run P w=.ok (.slice (some ⟨b,o,none⟩) (n+m) cap) w':=by
 obtain⟨a,c,rfl⟩:=hv;simp[Builtin.append_,run_underlying ht,run_underlying ht2,sizeOf,typeInfo,hi,Builtin.lenOf,hg,hnews,il,hst]
theorem rt {t t2 ty e e2:TypeId}{i:TypeInfo}(ht:P.underlying t=some (.slice e))(ht2:P.underlying t2=some (.slice e2))(hi:P.info? e=some i){a0:Option Addr}{cap:Nat}{v:Value}(hv:∃ a c,v=.slice a 0 c)(hnews:(Builtin.firstCells i.size 0 v).run P w=.ok #[] w):
  (Builtin.append_ #[t,t2] ty #[.slice a0 0 cap,v]).run P w=.ok (.slice a0 0 cap) w:=by
 obtain⟨a,c,rfl⟩:=hv;cases a0 <;>simp[Builtin.append_,run_underlying ht,run_underlying ht2,sizeOf,typeInfo,hi,Builtin.lenOf,hnews,storeCells]
theorem kn (w:World)(need old:Nat)(e:TypeId):need<=grownCap w need old e:=grownCap_ge w need old e
def FY (P:Program)(F:Nat->Prop)(own:Own)(w:World)(k:Tag)(l m:List k.T)(v:Value)(bs:List Nat):Prop:=bs=[]/\m≠[]/\(∃ a,v=.slice a l.length l.length)/\∃ olds,Src P F own w k l v olds
theorem uU {h:List Ob}(hp:Hp F own w h){nx:Nat}(hn:NxOk own h nx){t t2 ty e e2:TypeId}{i:TypeInfo}{z:Value}(ht:P.underlying t=some (.slice e))(ht2:P.underlying t2=some (.slice e2))(hi:P.info? e=some i)(hz:i.zero=some z)(hzs:z.cells.size=i.size){k:Tag}(hk:i.size=aa k)(hby:1<=i.bytes)
  {l m:List k.T} {v u:Value} {bs:List Nat} (hrow:RowRel F own w k l v bs\/FY P F own w k l m v bs) {K:List Nat} (hK:∀ id∈K,∃ hd,own id=some hd) (hKb:∀ b∈bs,∃ id∈K,∃ hd,own id=some hd/\b∈hd.bs) (hKo:∀ id∈K,∀ hd,own id=some hd->∀ b∈hd.bs,b∈bs)
  {news:List Value} (hs:Src P F own w k m u news) (hfit:(l++m).length*i.bytes<=fY):
  (l++m).length<=bR/\∃ v' hd' w',(Builtin.append_ #[t,t2] ty #[v,u]).run P w=.ok v' w'/\hd'.v=v'/\jF v'=true/\Step F own w (aD h (K.map (fun id=>(id,Ob.dead))++[(nx,.row k (l++m))])) (own.move K nx hd') w':=by
 have hlen:(l++m).length<=bR:=by
  have:(l++m).length<=(l++m).length*i.bytes:=Nat.le_mul_of_pos_right _ hby;unfold fY at hfit;unfold bR;omega
 refine⟨hlen,?_⟩;have h63:(l++m).length<=9223372036854775807:=by unfold bR at hlen;omega
 have hsrcl:=hs.len;rw[List.length_append]at hlen h63 hfit;have grow:∀ (a0:Option Addr) (cap:Nat) (olds:List Value),v=.slice a0 l.length cap->cap<l.length+m.length->(∀ w1:World,w1.heap=w.heap->(Builtin.firstCells i.size l.length v).run P w1=.ok olds.toArray w1)->olds.length=l.length*aa k->
   (∀ (i:Nat) (x:k.T),l[i]? =some x->∀ (j:Nat) (s:SV),(cellsOf k x)[j]? =some s->∃ u,olds[i*aa k+j]? =some u/\Rel F own w s u)->
   ∃ v' hd' w',(Builtin.append_ #[t,t2] ty #[v,u]).run P w=.ok v' w'/\hd'.v=v'/\jF v'=true/\Step F own w (aD h (K.map (fun id=>(id,Ob.dead))++[(nx,.row k (l++m))])) (own.move K nx hd') w':=by
  intro a0 cap olds hv hcap holds hol hrel;rw[hv]at holds;have hrun:=nq (P:=P) (ty:=ty) ht ht2 hi hz holds hsrcl (by rw[hk];exact hs.cells) hcap h63 hfit;rw[<-hv]at hrun;have hge:=kn w (l.length+m.length) cap e;let cs:=olds.toArray++news.toArray++Builtin.zeroCells z.cells (grownCap w (l.length+m.length) cap e - (l.length+m.length))
  have hcs:cs.size=grownCap w (l.length+m.length) cap e*aa k:=by
   simp only[cs,Array.size_append,List.size_toArray,j7,hzs,hk,hol,hs.size,<-Nat.add_mul];congr 1;omega
  refine⟨_,⟨none,_,[],[w.heap.size]⟩,_,hrun,rfl,rfl,eM hp hn K hK _ _ (fun b hb=>?_) (fun b hb _=>?_) ?_ rfl rfl rfl fun own' g=>?_⟩
  ·simp at hb;subst hb;exact .inr ⟨Nat.le_refl _,by rw[et];exact Nat.lt_succ_self _⟩
  ·exact iL w.drew _ b hb
  ·rw[et];exact Nat.le_succ _
  ·refine .inr ⟨w.heap.size,0,grownCap w (l.length+m.length) cap e,cs,e,by simp,rfl,fR w.drew _,by omega,by simpa using hge,by simpa using hlen,fun q x hq j s hj=>?_⟩;have hjl:j<aa k:=by rw[<-aQ k x];exact(List.getElem?_eq_some_iff.1 hj).1
   rw[Nat.zero_add];rw[List.getElem?_append]at hq;split at hq
   ·rename_i hlt;obtain⟨u',e1,e2⟩:=hrel q x hq j s hj;refine⟨u',?_,e2.mono g⟩;have hb:q*aa k+j<olds.length:=(List.getElem?_eq_some_iff.1 e1).1;simp only[cs];rw[Array.getElem?_append_left (by simp;omega),Array.getElem?_append_left (by simpa using hb)];simpa using e1
   ·rename_i hlt;obtain⟨u',e1,e2⟩:=hs.rel (q - l.length) x hq j s hj;refine⟨u',?_,e2.mono g⟩;have hb:=(List.getElem?_eq_some_iff.1 e1).1;have hqq:q*aa k+j=olds.length+((q - l.length)*aa k+j):=by
     rw[hol];have:q=l.length+(q - l.length):=by omega
     rw[this,Nat.add_mul];simp;omega
    simp only[cs];rw[hqq,Array.getElem?_append_left (by simp;omega),Array.getElem?_append_right (by simp)];simp;exact e1
 rcases hrow with(⟨a,rfl,rfl,rfl⟩ | ⟨b,o,cap,cs,tyb,rfl,rfl,h3,h4,h5,h6,h7⟩) | ⟨rfl,hm,⟨a,hv⟩,olds,ho⟩
 rotate_left 2
 ·have:0<m.length:=List.length_pos_iff.2 hm;exact grow a l.length olds hv (by omega) (by rw[hk];exact ho.cells) ho.size ho.rel
 ·by_cases hm:m=[]
  ·subst hm;have hnw:news=[]:=List.eq_nil_of_length_eq_zero (by simpa using hs.size);subst hnw;have hrun:=rt (P:=P) (ty:=ty) ht ht2 hi (a0:=a) (cap:=0) hsrcl (by have:=hs.cells w rfl;rw[hk];exact this);exact⟨_,⟨none,_,[],[]⟩,w,hrun,rfl,rfl,eM hp hn K hK _ _ (fun b hb=>by simp at hb) (fun _ _ _=>rfl) (Nat.le_refl _) rfl rfl rfl fun own' g=>.inl ⟨a,rfl,rfl,rfl⟩⟩
  ·have:0<m.length:=List.length_pos_iff.2 hm;exact grow a 0 [] rfl (by simp;omega) (fun w1 _=>by cases a <;>simp[Builtin.firstCells,loadCells,loadCellsFrom]) (by simp) (fun i x hx=>by simp at hx)
 ·by_cases hroom:l.length+m.length<=cap
  ·have hfits:o+l.length*aa k+news.length<=cs.size:=by
    rw[hs.size];have:(l.length+m.length)*aa k<=cap*aa k:=Nat.mul_le_mul_right _ hroom;rw[Nat.add_mul]at this;omega
   obtain⟨cs',w',q1,q2,q3,q4⟩:=eu (P:=P) (b:=b) (o:=o+l.length*aa k) (ty:=tyb) news 0 w cs h3 (by omega) hs.one;have hrun:=nr (P:=P) (ty:=ty) ht ht2 hi (b:=b) (o:=o) (n:=l.length) (cap:=cap) hsrcl (by have:=hs.cells w rfl;rw[hk];exact this) hroom (w':=w') (by rw[hk];exact q1);refine⟨_,⟨none,_,[],[b]⟩,w',hrun,rfl,rfl,eM hp hn K hK _ _ (fun b' hb'=>by simp at hb';subst hb';exact .inl (hKb _ (by simp))) (fun b' hb' hn'=>q2.other b' fun e=>hn' (by rw[e];exact hKb b (by simp))) (by rw[q2.size];exact Nat.le_refl _) q2.os q2.tape q2.output fun own' g=>?_⟩;refine .inr ⟨b,o,cap,cs',tyb,by simp,rfl,q2.here,by rw[q3];exact h4,by simpa using hroom,by simpa using hlen,fun q x hq j s hj=>?_⟩;have hjl:j<aa k:=by rw[<-aQ k x];exact(List.getElem?_eq_some_iff.1 hj).1
   rw[List.getElem?_append]at hq;split at hq
   ·rename_i hlt;obtain⟨u',e1,e2⟩:=h7 q x hq j s hj;refine⟨u',?_,e2.mono g⟩;have:(q+1)*aa k<=l.length*aa k:=Nat.mul_le_mul_right _ hlt;rw[Nat.succ_mul]at this;rw[q4,if_neg (by omega)];exact e1
   ·rename_i hlt;obtain⟨u',e1,e2⟩:=hs.rel (q - l.length) x hq j s hj;refine⟨u',?_,e2.mono g⟩;have hb:=(List.getElem?_eq_some_iff.1 e1).1;have hqq:o+q*aa k+j=o+l.length*aa k+0+((q - l.length)*aa k+j):=by
     have:q=l.length+(q - l.length):=by omega
     rw[this,Nat.add_mul];simp;omega
    rw[q4,hqq,if_pos (by omega),Nat.add_sub_cancel_left];exact e1
  ·obtain⟨olds,ho⟩:=wo (P:=P) (F:=F) (own:=own) (w:=w) (k:=k) (l:=l) (v:=.slice (some ⟨b,o,none⟩) l.length cap) (bs:=[b]) (.inr ⟨b,o,cap,cs,tyb,rfl,rfl,h3,h4,h5,h6,h7⟩);exact grow (some ⟨b,o,none⟩) cap olds rfl (by omega) (by rw[hk];exact ho.cells) ho.size ho.rel
end
section
variable {P:Program}{F:Nat->Prop}{own:Own}{w:World}
theorem dQ {id:Nat}{v:Value}(h:Rel F own w (.os id) v):∃ hd,own id=some hd/\v=hd.v/\jF hd.v=true:=by
 cases h with|os h1 h2=>exact⟨_,h1,rfl,h2⟩
theorem RowRel.blocks {k:Tag}{l:List k.T}{v:Value}{bs:List Nat}(h:RowRel F own w k l v bs):bs=[]\/∃ b,bs=[b]:=by
 rcases h with⟨_,_,_,e⟩ | ⟨b,_,_,_,_,_,e,_⟩
 ·exact .inl e
 ·exact .inr ⟨b,e⟩
theorem RowRel.slice {k:Tag}{l:List k.T}{v:Value}{bs:List Nat}(h:RowRel F own w k l v bs):∃ a cap,v=.slice a l.length cap:=by
 rcases h with⟨a,e,rfl,_⟩ | ⟨b,o,cap,_,_,e,_⟩
 ·exact⟨a,0,e⟩
 ·exact⟨_,cap,e⟩
theorem GridIn.app {k:Tag}{m:List k.T}{u:Value}{b2:List Nat}(hu:jF u=true)(hm:RowRel F own w k m u b2):∀ {l:List (List k.T)} {vs:List Value} {bs:List Nat},GridIn F own w k l vs bs->GridIn F own w k (l++[m]) (vs++[u]) (bs++b2)
 | [],[],bs,h=>by simp only[GridIn]at h;subst h;exact⟨b2,[],by simp,hu,hm,rfl⟩
 |l::ls,v::vs,bs,⟨c1,c2,h1,h0,h2,h3⟩ =>⟨c1,c2++b2,by rw[h1,List.append_assoc],h0,h2,GridIn.app hu hm h3⟩
 | [],_::_,_,h=>h.elim
 |_::_,[],_,h=>h.elim
theorem sW {h:List Ob}(hp:Hp F own w h){nx:Nat}(hn:NxOk own h nx){t t2 ty e e2:TypeId}{i:TypeInfo}{z:Value}(ht:P.underlying t=some (.slice e))(ht2:P.underlying t2=some (.slice e2))(hi:P.info? e=some i)(hz:i.zero=some z)(hsz:i.size=1)(hzs:z.cells.size=1)(hby:1<=i.bytes)
  {k:Tag} {l:List (List k.T)} {m:List k.T} {hd hd2:Hd} {id2:Nat} (hid2:own id2=some hd2) (ho2:ae h id2=.row k m) (hone:jF hd2.v=true) {K:List Nat}
  (hob:ObRel F own w hd (.grid k l)) (hd0:(hd.bs=[]/\K=[id2])\/∃ id,id≠id2/\own id=some hd/\K=[id,id2]) {u:Value} (hu:Rel F own w (.ls [.os id2]) u) (hfit:(l++[m]).length*i.bytes<=fY):
  (l++[m]).length<=bR/\∃ v' hd' w',(Builtin.append_ #[t,t2] ty #[hd.v,u]).run P w=.ok v' w'/\hd'.v=v'/\jF v'=true/\Step F own w (aD h (K.map (fun id=>(id,Ob.dead))++[(nx,.grid k (l++[m]))])) (own.move K nx hd') w':=by
 have hlen:(l++[m]).length<=bR:=by
  have:(l++[m]).length<=(l++[m]).length*i.bytes:=Nat.le_mul_of_pos_right _ hby;unfold fY at hfit;unfold bR;omega
 refine⟨hlen,?_⟩;have h63:(l++[m]).length<=9223372036854775807:=by unfold bR at hlen;omega
 simp only[List.length_append,List.length_cons,List.length_nil,Nat.zero_add]at hlen h63 hfit;obtain⟨hd2',e0,hm⟩:=hp.at ho2 rfl;rw[hid2]at e0;cases e0;have hK2:id2∈K:=by rcases hd0 with⟨_,rfl⟩ | ⟨id,_,_,rfl⟩ <;>simp
 have hK:∀ id∈K,∃ hd,own id=some hd:=by
  rcases hd0 with⟨_,rfl⟩ | ⟨id,_,h1,rfl⟩
  ·simp;exact⟨_,hid2⟩
  ·simp;exact⟨⟨_,h1⟩,⟨_,hid2⟩⟩
 have hKb:∀ b∈hd.bs,∃ id∈K,∃ hd,own id=some hd/\b∈hd.bs:=by
  rcases hd0 with⟨h1,rfl⟩ | ⟨id,_,h1,rfl⟩
  ·intro b hb;rw[h1]at hb;cases hb
  ·intro b hb;exact⟨id,by simp,hd,h1,hb⟩
 have hdisj:∀ b∈hd.bs,b ∉ hd2.bs:=by
  rcases hd0 with⟨h1,rfl⟩ | ⟨id,hne,h1,rfl⟩
  ·intro b hb;rw[h1]at hb;cases hb
  ·intro b hb hb2;exact hne (hp.inj id id2 hd hd2 b h1 hid2 hb hb2)
 have hlt:∀ b∈hd.bs,b<w.heap.size:=fun b hb=>by obtain⟨id,_,hd',h1,h2⟩:=hKb b hb;exact hp.lt id hd' b h1 h2
 have hnd2:hd2.bs.Nodup:=by
  rcases hm.blocks with e| ⟨b,e⟩ <;>rw[e] <;>simp
 have hsrc:∃ a c,u=.slice a 1 c/\∀ w1:World,w1.heap=w.heap->(Builtin.firstCells i.size 1 u).run P w1=.ok #[hd2.v] w1:=by
  cases hu with
  |ls c h0 h1 h2=>
   rename_i b o cap;obtain⟨q1,q2⟩:=h1 0 _ rfl;obtain⟨hd3,q3,q4,q5⟩:=dQ (h2 0 _ rfl);rw[hid2]at q3;cases q3;refine⟨_,_,rfl,fun w1 hw1=>?_⟩;have:=run_firstCells_some (P:=P) w1 i.size 1 ⟨b,o,none⟩ 1 cap [hd2.v] (by simp[hsz]) (fun j v hj=>by
    cases j with
    |zero=>simp at hj;subst hj;rw[il,kD (w:=w) (by rw[hw1]),q2,q4]
    |succ j=>simp at hj)
   simpa using this
 obtain⟨au,cu,hue,hnews⟩:=hsrc;have fin:∀ (own':Own) (w':World),Goes F own w own' w'->(∀ b∈hd2.bs,w'.heap[b]? =w.heap[b]?)->RowRel F own' w' k m hd2.v hd2.bs:=fun own' w' g hb=>RowRel.carry g.carries hb hm;have grow:∀ (a0:Option Addr) (cap:Nat) (bs:List Nat),hd.v=.slice a0 l.length cap->cap<l.length+1->(∀ w1:World,w1.heap=w.heap->(Builtin.firstCells i.size l.length hd.v).run P w1=.ok hd.vs.toArray w1)->hd.vs.length=l.length->bs.Nodup->(∀ b∈bs,b∈hd.bs)->
   GridIn F own w k l hd.vs bs->
   ∃ v' hd' w',(Builtin.append_ #[t,t2] ty #[hd.v,u]).run P w=.ok v' w'/\hd'.v=v'/\jF v'=true/\Step F own w (aD h (K.map (fun id=>(id,Ob.dead))++[(nx,.grid k (l++[m]))])) (own.move K nx hd') w':=by
  intro a0 cap bs hv hcap holds hol hbn hbsub hgi;rw[hv]at holds;have hrun:=nq (P:=P) (ty:=ty) ht ht2 hi hz holds ⟨au,cu,hue⟩ (news:=[hd2.v]) hnews hcap h63 hfit;rw[<-hv]at hrun;have hge:=kn w (l.length+1) cap e;let cs:=hd.vs.toArray++[hd2.v].toArray++Builtin.zeroCells z.cells (grownCap w (l.length+1) cap e - (l.length+1))
  have hcs:cs.size=grownCap w (l.length+1) cap e:=by
   simp only[cs,Array.size_append,List.size_toArray,j7,hzs,hol,List.length_cons,List.length_nil];omega
  refine⟨_,⟨none,_,hd.vs++[hd2.v],w.heap.size::(bs++hd2.bs)⟩,_,hrun,rfl,rfl,eM hp hn K hK _ _ (fun b hb=>?_) (fun b hb _=>?_) ?_ rfl rfl rfl fun own' g=>?_⟩
  ·simp only[List.mem_cons,List.mem_append]at hb;rcases hb with hb|hb|hb
   ·subst hb;exact .inr ⟨Nat.le_refl _,by rw[et];exact Nat.lt_succ_self _⟩
   ·exact .inl (hKb b (hbsub b hb))
   ·exact .inl ⟨id2,hK2,hd2,hid2,hb⟩
  ·exact iL w.drew _ b hb
  ·rw[et];exact Nat.le_succ _
  ·have hold:∀ b,b<w.heap.size->(w.drew.alloc (.cells cs e)).heap[b]? =w.heap[b]?:=fun b hb=>iL w.drew _ b hb;refine .inr ⟨w.heap.size,0,grownCap w (l.length+1) cap e,cs,e,bs++hd2.bs,by simp,rfl,?_,fR w.drew _,by omega,by simpa using hge,by simpa using hlen,fun q v hq=>?_,?_⟩
   ·rw[List.nodup_cons,List.nodup_append];refine⟨fun hb=>?_,hbn,hnd2,fun a ha b hb e=>hdisj a (hbsub a ha) (e▸hb)⟩;rcases List.mem_append.1 hb with hb|hb
    ·exact Nat.lt_irrefl _ (hlt _ (hbsub _ hb))
    ·exact Nat.lt_irrefl _ (hp.lt id2 hd2 _ hid2 hb)
   ·have hql:=(List.getElem?_eq_some_iff.1 hq).1;simp only[List.length_append,List.length_cons,List.length_nil]at hql;rw[Nat.zero_add];simp only[cs];rw[Array.getElem?_append_left (by simp;omega)];simpa using hq
   ·exact GridIn.app hone (fin own' _ g fun b hb=>hold b (hp.lt id2 hd2 b hid2 hb)) (hgi.carry g.carries fun b hb=>hold b (hlt b (hbsub b hb)))
 rcases hob with⟨hv,rfl,hvs,hbs⟩ | ⟨b,o,cap,cs,tyb,bs,hv,hbs,hbn,h4,h5,h6,h7,h8,h9⟩
 ·refine grow none 0 [] hv (by simp) (fun w1 _=>by rw[hv,hvs];simp[Builtin.firstCells]) (by rw[hvs];rfl) List.nodup_nil (fun b hb=>by cases hb) ?_;rw[hvs];rfl
 ·have hbn':=hbn;rw[hbs,List.nodup_cons]at hbn';by_cases hroom:l.length+1<=cap
  ·obtain⟨cs',w',q1,q2,q3,q4⟩:=eu (P:=P) (b:=b) (o:=o+l.length*i.size) (ty:=tyb) [hd2.v] 0 w cs h4 (by simp[hsz];omega) (fun v hv=>by simp at hv;subst hv;exact fK hone);have hrun:=nr (P:=P) (ty:=ty) ht ht2 hi (b:=b) (o:=o) (n:=l.length) (cap:=cap) (news:=[hd2.v]) ⟨au,cu,hue⟩ (hnews w rfl) hroom (w':=w') q1;have hold:∀ c,c≠b->w'.heap[c]? =w.heap[c]?:=q2.other;rw[<-hv]at hrun;refine⟨_,⟨none,_,hd.vs++[hd2.v],b::(bs++hd2.bs)⟩,w',hrun,rfl,rfl,eM hp hn K hK _ _ (fun c hc=>?_) (fun b' hb' hn'=>q2.other b' fun e=>hn' (by rw[e];exact hKb b (by simp[hbs]))) (by rw[q2.size];exact Nat.le_refl _) q2.os q2.tape q2.output fun own' g=>?_⟩
   ·simp only[List.mem_cons,List.mem_append]at hc;rcases hc with hc|hc|hc
    ·exact .inl (hKb c (by simp[hbs,hc]))
    ·exact .inl (hKb c (by simp[hbs,hc]))
    ·exact .inl ⟨id2,hK2,hd2,hid2,hc⟩
   ·refine .inr ⟨b,o,cap,cs',tyb,bs++hd2.bs,by simp,rfl,?_,q2.here,by rw[q3];exact h5,by simpa using hroom,by simpa using hlen,fun q v hq=>?_,?_⟩
    ·rw[List.nodup_cons,List.nodup_append];refine⟨fun hb=>?_,hbn'.2,hnd2,fun a ha c hc e=>hdisj a (by simp[hbs,ha]) (e▸hc)⟩;rcases List.mem_append.1 hb with hb|hb
     ·exact hbn'.1 hb
     ·exact hdisj b (by simp[hbs]) hb
    ·have hvl:=h9.len;rw[List.getElem?_append]at hq;rw[q4,hsz];split at hq
     ·rename_i hlt';rw[if_neg (by omega)];exact h8 q v hq
     ·rename_i hlt';have:q=hd.vs.length:=by have:=(List.getElem?_eq_some_iff.1 hq).1;simp at this;omega
      subst this;rw[if_pos (by simp;omega)];rw[hvl,show o+l.length - (o+l.length*1+0)=0 by omega];simpa using hq
    ·exact GridIn.app hone (fin own' _ g fun c hc=>hold c fun e=>hdisj b (by simp[hbs]) (e▸hc)) (h9.carry g.carries fun c hc=>hold c fun e=>hbn'.1 (e▸hc))
  ·refine grow _ cap bs hv (by omega) (fun w1 hw1=>?_) h9.len hbn'.2 (fun c hc=>by simp[hbs,hc]) h9;rw[hv];refine run_firstCells_some (P:=P) w1 i.size l.length ⟨b,o,none⟩ _ cap hd.vs (by rw[h9.len,hsz,Nat.mul_one]) fun j v hj=>?_;rw[il,kD (w:=w) (by rw[hw1]),bP h4];exact h8 j v hj
def _root_.Go.Sx.Own.fz (own:Own)(id:Nat):Own:=fun j=>if j=id then(own j).map (fun hd=>{ hd with bs:=[]})else own j
theorem I2 {h:List Ob}(hp:Hp F own w h){id:Nat}{hd:Hd}(hid:own id=some hd){b:Nat}(hb:b∈hd.bs):¬bD F (own.fz id) b:=by
 rintro (hf| ⟨j,hj,e,hm⟩)
 ·exact hp.apart id hd b hid hb hf
 ·simp only[Own.fz]at e;by_cases ej:j=id
  ·subst ej;rw[if_pos rfl,hid]at e;simp at e;subst e;simp at hm
  ·rw[if_neg ej]at e;exact ej (hp.inj j id hj hd b e hid hm hb)
theorem I3 {h:List Ob}(hp:Hp F own w h){id:Nat}{b:Nat}(hb:w.heap.size<=b):¬bD F (own.fz id) b:=by
 rintro (hf| ⟨j,hj,e,hm⟩)
 ·exact absurd (hp.foreign b hf) (by omega)
 ·simp only[Own.fz]at e;by_cases ej:j=id
  ·subst ej;rw[if_pos rfl]at e;cases ho:own j with
   |none=>rw[ho]at e;simp at e
   |some hd=>rw[ho]at e;simp at e;subst e;simp at hm
  ·rw[if_neg ej]at e;exact absurd (hp.lt j hj b e hm) (by omega)
theorem Dx {id:Nat}{hd:Hd}(hid:own id=some hd){w':World}(hold:∀ b,b<w.heap.size->b ∉ hd.bs->w'.heap[b]? =w.heap[b]?)(hsz:w.heap.size<=w'.heap.size)(q2:w'.os=w.os)(q3:w'.tape=w.tape)(q4:w'.output=w.output):Fr { w:=w,own:=own} (own.fz id) w':=by
 refine Fr.of_step (fun j hj h1=>?_) (fun j hj b h1 h2=>?_) (fun b hb hnb=>hold b hb fun hm=>hnb ⟨id,hd,hid,hm⟩) hsz q2 q3 q4
 ·simp only[Own.fz];by_cases e:j=id
  ·exact⟨{ hj with bs:=[]},by rw[if_pos e,h1];rfl,rfl,rfl,rfl⟩
  ·exact⟨hj,by rw[if_neg e,h1],.refl _⟩
 ·simp only[Own.fz]at h1;by_cases e:j=id
  ·subst e;rw[if_pos rfl,hid]at h1;simp at h1;subst h1;simp at h2
  ·rw[if_neg e]at h1;exact .inl ⟨j,hj,h1,h2⟩
theorem wr {h:List Ob}(hp:Hp F own w h){id:Nat}{hd:Hd}(hid:own id=some hd){w':World}(ob:Ob)(fr:Fr { w:=w,own:=own} (own.fz id) w')(hold:∀ b,b<w.heap.size->b ∉ hd.bs->w'.heap[b]? =w.heap[b]?)
  (hob:ObRel F (own.fz id) w' { hd with bs:=[]} ob):Step F own w (aD h [(id,ob)]) (own.fz id) w':=by
 have hl:id<h.length:=hp.dom _ _ hid;have hat:∀ j,ae (aD h [(id,ob)]) j=if id=j then ob else ae h j:=fun j=>b8 ..;have hlen:(aD h [(id,ob)]).length=h.length:=by show(bf h id ob).length=_;rw[bv,if_pos hl]
 refine⟨hp.upd fr.goes (fun j=>j=id) (by rw[hlen];exact Nat.le_refl _) (fun j hj=>?_) (fun j hj hu h1=>?_) (fun j hu _=>?_),fr,fun j h1 _=>?_⟩
 ·refine⟨by simp[Own.fz,hj],by rw[hat,if_neg fun e=>hj e.symm],fun hd' b h1 h2=>hold b (hp.lt j hd' b h1 h2) fun hm=>hj (hp.inj j id hd' hd b h1 hid h2 hm)⟩
 ·subst hu;simp only[Own.fz,if_pos,hid,Option.map_some,Option.some.injEq]at h1;subst h1;exact⟨by rw[hlen];exact hl,fun b hb=>by simp at hb⟩
 ·subst hu;exact⟨{ hd with bs:=[]},by simp[Own.fz,hid],by rw[hat,if_pos rfl];exact hob⟩
 ·simp only[Own.fz];split
  ·rw[h1];rfl
  ·exact h1
theorem RowAt.rs {k:Tag}{l:List k.T}{o b cap:Nat}{cs:Array Value}{ty:TypeId}(hc:l.length<=cap)(hm:l.length<=bR)(hb:¬bD F own b)(h3:w.heap[b]? =some (.cells cs ty (0,0)))(h7:RowAt F own w k l o cs):Rel F own w (.rs k l) (.slice (some ⟨b,o,none⟩) l.length cap):=by
 refine .rs (fun i j=>cs.getD (o+i*aa k+j) undef) hc hm (fun i x hi j s hj=>⟨hb,?_⟩) (fun i x hi j s hj=>?_)
 ·obtain⟨u,e1,_⟩:=h7 i x hi j s hj;rw[bP h3];show cs[o+i*aa k+j]? =some (cs.getD (o+i*aa k+j) undef);simp[Array.getD_eq_getD_getElem?,e1]
 ·obtain⟨u,e1,e2⟩:=h7 i x hi j s hj;show Rel F own w s (cs.getD (o+i*aa k+j) undef);simpa[Array.getD_eq_getD_getElem?,e1]using e2
theorem zu {h:List Ob}(hp:Hp F own w h){t t2 ty e e2:TypeId}{i:TypeInfo}{z:Value}(ht:P.underlying t=some (.slice e))(ht2:P.underlying t2=some (.slice e2))(hi:P.info? e=some i)(hz:i.zero=some z)(hzs:z.cells.size=i.size){k:Tag}(hk:i.size=aa k)(hby:1<=i.bytes)
  {l:List k.T} {id:Nat} {hd:Hd} (hid:own id=some hd) (hrow:RowRel F own w k l hd.v hd.bs) (hfit:(l++l).length*i.bytes<=fY):
  (l++l).length<=bR/\∃ v' w',(Builtin.append_ #[t,t2] ty #[hd.v,hd.v]).run P w=.ok v' w'/\Rel F (own.fz id) w' (.rs k (l++l)) v'/\Step F own w (aD h [(id,.fz k l)]) (own.fz id) w':=by
 have hlen:(l++l).length<=bR:=by
  have:(l++l).length<=(l++l).length*i.bytes:=Nat.le_mul_of_pos_right _ hby;unfold fY at hfit;unfold bR;omega
 refine⟨hlen,?_⟩;have h63:(l++l).length<=9223372036854775807:=by unfold bR at hlen;omega
 obtain⟨news,hs⟩:=wo (P:=P) hrow;have hsrcl:=hs.len;have hlen2:=hlen;rw[List.length_append]at hlen2 h63 hfit;have two:∀ (own':Own) (w':World),Goes F own w own' w'->∀ (o:Nat) (cs:Array Value),(∀ (q:Nat) (x:k.T),l[q]? =some x->∀ (j:Nat) (s:SV),(cellsOf k x)[j]? =some s->∃ u,cs[o+q*aa k+j]? =some u/\Rel F own w s u)->
   (∀ (q:Nat) (x:k.T),l[q]? =some x->∀ (j:Nat) (s:SV),(cellsOf k x)[j]? =some s->∃ u,cs[o+l.length*aa k+(q*aa k+j)]? =some u/\Rel F own w s u)->RowAt F own' w' k (l++l) o cs:=by
  intro own' w' g o cs a1 a2 q x hq j s hj;rw[List.getElem?_append]at hq;split at hq
  ·obtain⟨u,e1,e2⟩:=a1 q x hq j s hj;exact⟨u,e1,e2.mono g⟩
  ·rename_i hlt;obtain⟨u,e1,e2⟩:=a2 (q - l.length) x hq j s hj;refine⟨u,?_,e2.mono g⟩;have hqq:o+q*aa k+j=o+l.length*aa k+((q - l.length)*aa k+j):=by
    have:q=l.length+(q - l.length):=by omega
    rw[this,Nat.add_mul];simp;omega
   rw[hqq];exact e1
 rcases hrow with⟨a,hv,rfl,hbs⟩ | ⟨b,o,cap,cs,tyb,hv,hbs,h3,h4,h5,h6,h7⟩
 ·have hnw:news=[]:=List.eq_nil_of_length_eq_zero (by simpa using hs.size);subst hnw;have hcells:=hs.cells w rfl;rw[hv]at hsrcl hcells;have hrun:=rt (P:=P) (ty:=ty) ht ht2 hi (a0:=a) (cap:=0) hsrcl (by rw[hk];exact hcells);rw[<-hv]at hrun;have fr:=Dx hid (w':=w) (fun _ _ _=>rfl) (Nat.le_refl _) rfl rfl rfl;exact⟨_,w,hrun,by rw[hv];exact .rs0,wr hp hid _ fr (fun _ _ _=>rfl) (by show Rel F (own.fz id) w (.rs k []) hd.v;rw[hv];exact .rs0)⟩
 ·have hnb:¬bD F (own.fz id) b:=I2 hp hid (by simp[hbs]);have hcells:=hs.cells;rw[hv]at hsrcl hcells;by_cases hroom:l.length+l.length<=cap
  ·have hfits:o+l.length*aa k+news.length<=cs.size:=by
    rw[hs.size];have:(l.length+l.length)*aa k<=cap*aa k:=Nat.mul_le_mul_right _ hroom;rw[Nat.add_mul]at this;omega
   obtain⟨cs',w',q1,q2,q3,q4⟩:=eu (P:=P) (b:=b) (o:=o+l.length*aa k) (ty:=tyb) news 0 w cs h3 (by omega) hs.one;have hrun:=nr (P:=P) (ty:=ty) ht ht2 hi (b:=b) (o:=o) (n:=l.length) (cap:=cap) hsrcl (by rw[hk];exact hcells w rfl) hroom (w':=w') (by rw[hk];exact q1);rw[<-hv]at hrun;have hold:∀ b',b'<w.heap.size->b' ∉ hd.bs->w'.heap[b']? =w.heap[b']?:=fun b' _ hn=>q2.other b' fun e=>hn (by rw[e,hbs];simp);have fr:=Dx hid hold (by rw[q2.size];exact Nat.le_refl _) q2.os q2.tape q2.output;have hat:=two _ _ fr.goes o cs' (fun q x hq j s hj=>by
     obtain⟨u',e1,e2⟩:=h7 q x hq j s hj;refine⟨u',?_,e2⟩;have hjl:j<aa k:=by rw[<-aQ k x];exact(List.getElem?_eq_some_iff.1 hj).1
     have hlt:=(List.getElem?_eq_some_iff.1 hq).1;have:(q+1)*aa k<=l.length*aa k:=Nat.mul_le_mul_right _ hlt;rw[Nat.succ_mul]at this;rw[q4,if_neg (by omega)];exact e1) (fun q x hq j s hj=>by
     obtain⟨u',e1,e2⟩:=hs.rel q x hq j s hj;refine⟨u',?_,e2⟩;have hb:=(List.getElem?_eq_some_iff.1 e1).1;rw[q4,if_pos (by omega),show o+l.length*aa k+(q*aa k+j) - (o+l.length*aa k+0)=q*aa k+j by omega];exact e1)
   refine⟨_,w',hrun,?_,wr hp hid _ fr hold ?_⟩
   ·have:=RowAt.rs (cap:=cap) (by simpa using hroom) hlen hnb q2.here hat;simpa using this
   ·show Rel F (own.fz id) w' (.rs k l) hd.v;rw[hv];exact RowAt.rs h5 h6 hnb q2.here fun q x hq=>hat q x (by rw[List.getElem?_append_left (List.getElem?_eq_some_iff.1 hq).1];exact hq)
  ·have hrun:=nq (P:=P) (ty:=ty) (a0:=some ⟨b,o,none⟩) (n:=l.length) (olds:=news) ht ht2 hi hz (fun w1 hw1=>by rw[hk];exact hcells w1 hw1) hsrcl (by rw[hk];exact hcells) (by omega) h63 hfit;rw[<-hv]at hrun;have hge:=kn w (l.length+l.length) cap e;let cs2:=news.toArray++news.toArray++Builtin.zeroCells z.cells (grownCap w (l.length+l.length) cap e - (l.length+l.length))
   have hold:∀ b',b'<w.heap.size->(w.drew.alloc (.cells cs2 e)).heap[b']? =w.heap[b']?:=fun b' hb'=>iL w.drew _ b' hb';have fr:=Dx hid (w':=w.drew.alloc (.cells cs2 e)) (fun b' hb' _=>hold b' hb') (by rw[et];exact Nat.le_succ _) rfl rfl rfl;have hat:=two _ _ fr.goes 0 cs2 (fun q x hq j s hj=>by
     obtain⟨u',e1,e2⟩:=hs.rel q x hq j s hj;refine⟨u',?_,e2⟩;have hb:=(List.getElem?_eq_some_iff.1 e1).1;rw[Nat.zero_add];simp only[cs2];rw[Array.getElem?_append_left (by simp;omega),Array.getElem?_append_left (by simpa using hb)];simpa using e1) (fun q x hq j s hj=>by
     obtain⟨u',e1,e2⟩:=hs.rel q x hq j s hj;refine⟨u',?_,e2⟩;have hb:=(List.getElem?_eq_some_iff.1 e1).1;have hsz:=hs.size;rw[Nat.zero_add,<-hsz];simp only[cs2];rw[Array.getElem?_append_left (by simp;omega),Array.getElem?_append_right (by simp)];simpa using e1)
   refine⟨_,_,hrun,?_,wr hp hid _ fr (fun b' hb' _=>hold b' hb') ?_⟩
   ·have:=RowAt.rs (cap:=grownCap w (l.length+l.length) cap e) (by simpa using hge) hlen (I3 hp (id:=id) (Nat.le_refl _)) (fR w.drew _) hat;rw[List.length_append]at this;exact this
   ·show Rel F (own.fz id) _ (.rs k l) hd.v;rw[hv];refine RowAt.rs h5 h6 hnb (by rw[hold b (iK h3)];exact h3) fun q x hq j s hj=>?_;obtain⟨u',e1,e2⟩:=h7 q x hq j s hj;exact⟨u',e1,e2.mono fr.goes⟩
def ru (F:Nat->Prop)(own:Own)(w:World)(h:List Ob)(run:Result Value)(r:OR):Prop:=
 ∃ c a ups s,r=.eff c a ups s/\(c->a/\∃ u own' w',run=.ok u w'/\Rel F own' w' s u/\Step F own w (aD h ups) own' w')
theorem r8 {h:List Ob}(hp:Hp F own w h){nx:Nat}(hn:NxOk own h nx){t t2 ty:TypeId}{ti ti2 te:TI}(ht:cr P t=some ti)(ht2:cr P t2=some ti2)(hte:cr P ti.elem=some te)(hsl:ti.isSlice=true)(hsl2:ti2.isSlice=true)
  {k:Tag} {l:List k.T} {v u:Value} {bs:List Nat} (hrow:RowRel F own w k l v bs) {K:List Nat} (hK:∀ id∈K,∃ hd,own id=some hd) (hKb:∀ b∈bs,∃ id∈K,∃ hd,own id=some hd/\b∈hd.bs) (hKo:∀ id∈K,∀ hd,own id=some hd->∀ b∈hd.bs,b∈bs) {src:SV} (hsrc:Rel F own w src u) {r:OR} (he:mn te nx (K.map fun id=>(id,Ob.dead)) h src (.row k l)=r) (hne:r≠ .bad):
  ru F own w h ((Builtin.append_ #[t,t2] ty #[v,u]).run P w) r:=by
 obtain⟨i,d,z,hi,hd,hz,hq,rfl⟩:=aY ht;obtain⟨i2,d2,z2,hi2,hd2,hz2,hq2,rfl⟩:=aY ht2;obtain⟨ie,de,ze,hie,hde,hze,hqe,hte'⟩:=aY hte;cases d <;>simp[ci]at hsl;cases d2 <;>simp[ci]at hsl2;rename_i e e2;simp only[ci]at hie;simp only[mn]at he;cases hc:Nat.beq te.size (aa k)&&Nat.beq (sz te.zero) te.size&&Nat.ble 1 te.bytes with
 |false=>rw[hc]at he;exact absurd he.symm hne
 |true=>
  rw[hc]at he;simp only[cond_true]at he;cases hs:la k h src with
  |none=>rw[hs]at he;exact absurd he.symm hne
  |some m=>
   rw[hs]at he;simp only[C7]at he;subst he;simp only[Bool.and_eq_true,kl]at hc;have hes:te.size=ie.size:=by rw[hte'];rfl
   have heb:te.bytes=ie.bytes:=by rw[hte'];rfl
   have hez:te.zero=svs ze:=by rw[hte'];simp[ci,hze]
   have c1:=Nat.eq_of_beq_eq_true hc.1.1;have c2:=Nat.eq_of_beq_eq_true hc.1.2;have c3:=nbl hc.2;obtain⟨news,hsr⟩:=wq (P:=P) hp hsrc hs;refine⟨_,_,_,_,rfl,fun hfit=>?_⟩;obtain⟨q1,v',hd',w',q2,q3,q4,q5⟩:=uU (P:=P) (ty:=ty) hp hn hd hd2 hie hze (by rw[hez]at c2;simp[svs]at c2;omega) (k:=k) (by omega) (by omega) (.inl hrow) hK hKb hKo hsr (by rw[<-heb];exact hfit);refine⟨q1,v',_,w',q2,?_,q5⟩;rw[<-q3];exact .os (by simp[Own.move]) (by rw[q3];exact q4)
theorem FZ {h:List Ob}(hp:Hp F own w h){nx:Nat}(hn:NxOk own h nx){t t2 ty:TypeId}{ti ti2 te:TI}(ht:cr P t=some ti)(ht2:cr P t2=some ti2)(hte:cr P ti.elem=some te)(hsl:ti.isSlice=true)(hsl2:ti2.isSlice=true)
  {l:List SV} {vs:Array Value} (hl:RelL F own w l vs) {r:OR} (he:gE te nx h l=r) (hne:r≠ .bad):ru F own w h ((Builtin.append_ #[t,t2] ty vs).run P w) r:=by
 have two:∀ (d s:SV),l=[d,s]->∃ vd vu,vs= #[vd,vu]/\Rel F own w d vd/\Rel F own w s vu:=by
  rintro d s rfl;obtain⟨⟨a⟩⟩:=vs
  ·exact absurd hl.1 (by simp)
  ·rename_i x xs;cases xs with
   |nil=>exact absurd hl.1 (by simp)
   |cons y ys=>
    cases ys with
    |nil=>exact⟨x,y,rfl,by simpa using hl.2 0 _ rfl,by simpa using hl.2 1 _ rfl⟩
    |cons _ _=>exact absurd hl.1 (by simp)
 have grid:∀ (e e2:TypeId) (ie:TypeInfo) (ze:Value),P.underlying t=some (.slice e)->P.underlying t2=some (.slice e2)->P.info? e=some ie->ie.zero=some ze->te.size=ie.size->te.bytes=ie.bytes->te.zero=svs ze->True:=fun _ _ _ _ _ _ _ _ _ _ _=>trivial;obtain⟨i,d,z,hi,hd,hz,hq,hti⟩:=aY ht;obtain⟨i2,d2,z2,hi2,hd2,hz2,hq2,hti2⟩:=aY ht2;obtain⟨ie,de,ze,hie,hde,hze,hqe,hte'⟩:=aY hte;have hes:te.size=ie.size:=by rw[hte'];rfl
 have heb:te.bytes=ie.bytes:=by rw[hte'];rfl
 have hez:te.zero=svs ze:=by rw[hte'];simp[ci,hze]
 have hsle:∃ e,d=.slice e/\P.info? e=some ie:=by
  subst hti;cases d <;>simp[ci]at hsl;exact⟨_,rfl,by simpa[ci]using hie⟩
 have hsle2:∃ e,d2=.slice e:=by
  subst hti2;cases d2 <;>simp[ci]at hsl2;exact⟨_,rfl⟩
 obtain⟨e,rfl,hie'⟩:=hsle;obtain⟨e2,rfl⟩:=hsle2;unfold gE at he;split at he
 ·rename_i id id2;obtain⟨vd,vu,rfl,hvd,hvu⟩:=two _ _ rfl;cases hc:Nat.beq te.size 1&&Nat.beq (sz te.zero) 1&&Nat.ble 1 te.bytes&& !(Nat.beq id id2)with
  |false=>rw[hc]at he;exact absurd he.symm hne
  |true=>
   rw[hc]at he;simp only[cond_true]at he;simp only[Bool.and_eq_true,kl,Bool.not_eq_true']at hc;have c1:=Nat.eq_of_beq_eq_true hc.1.1.1;have c2:=Nat.eq_of_beq_eq_true hc.1.1.2;have c3:=nbl hc.1.2;have hne2:id≠id2:=fun e=>by rw[e]at hc;simp at hc
   cases ho:ae h id with
   |grid k l=>
    rw[ho]at he;simp only[rg]at he;cases ho2:ae h id2 with
    |row k' m'=>
     rw[ho2]at he;simp only[BG]at he;cases hcast:oq k k' m' with
     |none=>rw[hcast]at he;exact absurd he.symm hne
     |some m=>
      obtain⟨ek,rfl⟩:=kP hcast;subst ek;rw[hcast]at he;simp only[sE]at he;subst he;obtain⟨hdd,h1,rfl,h2⟩:=dQ hvd;obtain⟨hd',e0,e1⟩:=hp.at ho rfl;rw[h1]at e0;cases e0;have h2id:∃ hd2,own id2=some hd2/\jF hd2.v=true:=by
       cases hvu with
       |ls c h0 q1 q2=>obtain⟨hd3,q3,q4,q5⟩:=dQ (q2 0 _ rfl);exact⟨hd3,q3,q5⟩
      obtain⟨hdd2,h3,h4⟩:=h2id;refine⟨_,_,_,_,rfl,fun hfit=>?_⟩;obtain⟨q1,v',hd',w',q2,q3,q4,q5⟩:=sW (P:=P) (ty:=ty) hp hn hd hd2 hie' hze (by omega) (by rw[hez]at c2;simpa[svs]using c2) (by omega) h3 ho2 h4 e1 (.inr ⟨id,hne2,h1,rfl⟩) hvu (by rw[<-heb];exact hfit);refine⟨q1,v',_,w',q2,?_,q5⟩;rw[<-q3];exact .os (by simp[Own.move]) (by rw[q3];exact q4)
    |_=>rw[ho2]at he;exact absurd he.symm hne
   |_=>rw[ho]at he;exact absurd he.symm hne
 ·rename_i id2;obtain⟨vd,vu,rfl,hvd,hvu⟩:=two _ _ rfl;cases hc:Nat.beq te.size 1&&Nat.beq (sz te.zero) 1&&Nat.ble 1 te.bytes with
  |false=>rw[hc]at he;exact absurd he.symm hne
  |true=>
   rw[hc]at he;simp only[cond_true]at he;simp only[Bool.and_eq_true,kl]at hc;have c1:=Nat.eq_of_beq_eq_true hc.1.1;have c2:=Nat.eq_of_beq_eq_true hc.1.2;have c3:=nbl hc.2;cases ho2:ae h id2 with
   |row k m=>
    rw[ho2]at he;simp only[C8,sE]at he;subst he;have:=bo hvd;subst this;have h2id:∃ hd2,own id2=some hd2/\jF hd2.v=true:=by
     cases hvu with
     |ls c h0 q1 q2=>obtain⟨hd3,q3,q4,q5⟩:=dQ (q2 0 _ rfl);exact⟨hd3,q3,q5⟩
    obtain⟨hdd2,h3,h4⟩:=h2id;refine⟨_,_,_,_,rfl,fun hfit=>?_⟩;obtain⟨q1,v',hd',w',q2,q3,q4,q5⟩:=sW (P:=P) (ty:=ty) (l:=[]) (hd:=⟨none,.slice none 0 0,[],[]⟩) hp hn hd hd2 hie' hze (by omega) (by rw[hez]at c2;simpa[svs]using c2) (by omega) h3 ho2 h4 (.inl ⟨rfl,rfl,rfl,rfl⟩) (.inl ⟨rfl,rfl⟩) hvu (by rw[<-heb];exact hfit);refine⟨q1,v',_,w',q2,?_,q5⟩;rw[<-q3];exact .os (by simp[Own.move]) (by rw[q3];exact q4)
   |_=>rw[ho2]at he;exact absurd he.symm hne
 ·rename_i id id2;obtain⟨vd,vu,rfl,hvd,hvu⟩:=two _ _ rfl;obtain⟨hdd,h1,rfl,h2⟩:=dQ hvd;cases heq:Nat.beq id id2 with
  |true=>
   have hids:=Nat.eq_of_beq_eq_true heq;subst hids;rw[heq]at he;simp only[cond_true]at he;obtain⟨hdd',h1',rfl,_⟩:=dQ hvu;rw[h1]at h1';cases h1';cases ho:ae h id with
   |row k l=>
    rw[ho]at he;simp only[C9]at he;obtain⟨hd',e0,e1⟩:=hp.at ho rfl;rw[h1]at e0;cases e0;cases hc:Nat.beq te.size (aa k)&&Nat.beq (sz te.zero) te.size&&Nat.ble 1 te.bytes with
    |false=>rw[hc]at he;exact absurd he.symm hne
    |true=>
     rw[hc]at he;simp only[cond_true]at he;subst he;simp only[Bool.and_eq_true,kl]at hc;have c1:=Nat.eq_of_beq_eq_true hc.1.1;have c2:=Nat.eq_of_beq_eq_true hc.1.2;have c3:=nbl hc.2;refine⟨_,_,_,_,rfl,fun hfit=>?_⟩;obtain⟨q1,v',w',q2,q3,q4⟩:=zu (P:=P) (ty:=ty) hp hd hd2 hie' hze (by rw[hez]at c2;simp[svs]at c2;omega) (k:=k) (by omega) (by omega) h1 e1 (by rw[<-heb];exact hfit);exact⟨q1,v',_,w',q2,q3,q4⟩
   |_=>rw[ho]at he;simp[C9]at he;exact absurd he.symm hne
  |false=>
   rw[heq]at he;simp only[cond_false]at he;cases ho:ae h id with
   |row k l=>
    rw[ho]at he;obtain⟨hd',e0,e1⟩:=hp.at ho rfl;rw[h1]at e0;cases e0;exact r8 (P:=P) (K:=[id]) hp hn ht ht2 hte hsl hsl2 e1 (by simp;exact⟨_,h1⟩) (fun b hb=>⟨id,by simp,hdd,h1,hb⟩) (fun id' hid hd' hh b hb=>by simp at hid;subst hid;rw[h1]at hh;cases hh;exact hb) hvu he hne
   |_=>rw[ho]at he;simp[mn]at he;exact absurd he.symm hne
 ·rename_i id src _ _;obtain⟨vd,vu,rfl,hvd,hvu⟩:=two _ _ rfl;obtain⟨hdd,h1,rfl,h2⟩:=dQ hvd;cases ho:ae h id with
  |row k l=>
   rw[ho]at he;obtain⟨hd',e0,e1⟩:=hp.at ho rfl;rw[h1]at e0;cases e0;exact r8 (P:=P) (K:=[id]) hp hn ht ht2 hte hsl hsl2 e1 (by simp;exact⟨_,h1⟩) (fun b hb=>⟨id,by simp,hdd,h1,hb⟩) (fun id' hid hd' hh b hb=>by simp at hid;subst hid;rw[h1]at hh;cases hh;exact hb) hvu he hne
  |_=>rw[ho]at he;simp[mn]at he;exact absurd he.symm hne
 ·obtain⟨vd,vu,rfl,hvd,hvu⟩:=two _ _ rfl;have:=bo hvd;subst this;unfold mo at he;split at he
  ·rename_i k _;exact r8 (P:=P) (K:=[]) (l:=[]) (bs:=[]) hp hn ht ht2 hte hsl hsl2 (.inl ⟨none,rfl,rfl,rfl⟩) (by simp) (fun b hb=>by cases hb) (fun id hid=>by cases hid) hvu he hne
  ·exact absurd he.symm hne
 ·obtain⟨vd,vu,rfl,hvd,hvu⟩:=two _ _ rfl;cases hvd with
  |e0=>
   unfold mo at he;split at he
   ·rename_i k _;exact r8 (P:=P) (K:=[]) (l:=[]) (bs:=[]) hp hn ht ht2 hte hsl hsl2 (.inl ⟨_,rfl,rfl,rfl⟩) (by simp) (fun b hb=>by cases hb) (fun id hid=>by cases hid) hvu he hne
   ·exact absurd he.symm hne
 ·rename_i k l src;obtain⟨vd,vu,rfl,hvd,hvu⟩:=two _ _ rfl;cases hvd with
  |rc hvd=>
   unfold BH at he;cases hc:Nat.beq te.size (aa k)&&Nat.beq (sz te.zero) te.size&&Nat.ble 1 te.bytes with
   |false=>rw[hc]at he;exact absurd he.symm hne
   |true=>
    rw[hc]at he;simp only[cond_true]at he;cases hs:la k h src with
    |none=>rw[hs]at he;exact absurd he.symm hne
    |some m=>
     cases m with
     |nil=>rw[hs]at he;exact absurd he.symm hne
     |cons x m=>
      rw[hs]at he;simp only[AI]at he;subst he;simp only[Bool.and_eq_true,kl]at hc;have c1:=Nat.eq_of_beq_eq_true hc.1.1;have c2:=Nat.eq_of_beq_eq_true hc.1.2;have c3:=nbl hc.2;obtain⟨news,hsr⟩:=wq (P:=P) hp hvu hs;obtain⟨olds,hol⟩:=wq (P:=P) hp hvd (k:=k) (m:=l) (by simp[la,oq]);refine⟨_,_,_,_,rfl,fun hfit=>?_⟩;obtain⟨q1,v',hd',w',q2,q3,q4,q5⟩:=uU (P:=P) (ty:=ty) (K:=[]) (bs:=[]) hp hn hd hd2 hie' hze (by rw[hez]at c2;simp[svs]at c2;omega) (k:=k) (by omega) (by omega) (.inr ⟨rfl,by simp,⟨_,rfl⟩,olds,hol⟩) (by simp) (fun b hb=>by cases hb) (fun id hid=>by cases hid) hsr (by rw[<-heb];exact hfit);refine⟨q1,v',_,w',q2,?_,q5⟩;rw[<-q3];exact .os (by simp[Own.move]) (by rw[q3];exact q4)
 ·exact absurd he.symm hne
end
end Go.Sx
end
