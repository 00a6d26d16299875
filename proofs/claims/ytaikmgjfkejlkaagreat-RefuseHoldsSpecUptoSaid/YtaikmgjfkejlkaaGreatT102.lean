/- Part of the proof of the law RefuseHoldsSpec (the Upto form). -/
import Derived.Test.YtaikmgjfkejlkaaGreatT101
import Derived.Laws.Tables
import Derived.Laws.StructEq
import Derived.Laws.MakeOwn
import Derived.ChangeKeysEq
set_option linter.all false
set_option maxHeartbeats 4000000
set_option maxRecDepth 100000
section
namespace Go.Sx
open Go.RowKit
section
variable {P:Program}{F:Nat->Prop}{own:Own}{w:World}
def wl (k:IntKind)(n:Int):(asIntOf (.int k n)).run P w=.ok (k,n) w:=rfl
variable {t e:TypeId}{E:TypeInfo}{o:Nat}{k:IntKind}
theorem tC(hd:P.underlying t=some (.slice e))(O:P.info? e=some E){b n cap:Nat}{i:Int}(V:0<=i)(h1:i.toNat<n):
  (Instr.indexAt t (.slice (some ⟨b,o,none⟩) n cap) (.int k i)).run P w=.ok (.pointer (some ⟨b,o+i.toNat*E.size,none⟩)) w:=by
 simp[Instr.indexAt,aqF,wl,aqK,run_underlying hd];simp_all [dU,pb]
theorem DO{len:Nat}(hd:P.underlying t=some (.array len e))(O:P.info? e=some E){b:Nat}{i:Int}(hc:0<=i/\i< (len:Int)):
  (Instr.indexAt t (.pointer (some ⟨b,o,none⟩)) (.int k i)).run P w=.ok (.pointer (some ⟨b,o+i.toNat*E.size,none⟩)) w:=by
 simp[Instr.indexAt,aqF,wl,aqK,run_underlying hd,Instr.sureAddr];simp_all [dU,pb]
theorem Wd{h:List Ob}(hp:Hp F own w h){ti te:TI}(ht:jZ P t=some ti)(hte:jZ P ti.elem=some te){s si:SV}{v vi:Value}{r:OR}
  (hr:Rel F own w s v) (hri:Rel F own w si vi) (O:iO ti te.size h s si=r) (W:r≠ .bad):
  ∃ c s',r=.chk c s'/\(c->∃ u,(Instr.indexAt t v vi).run P w=.ok u w/\Rel F own w s' u):=by
 obtain⟨i,d,z,hi,hd,hz,hq,rfl⟩:=bY ht;obtain⟨ie,de,ze,hie,hde,hze,hqe,hte'⟩:=bY hte;have hes:te.size=ie.size:=by rw[hte'];rfl
 have key:∀ k n,si=.v (.int k n)->∃ c s',r=.chk c s'/\(c->∃ u,(Instr.indexAt t v (.int k n)).run P w=.ok u w/\Rel F own w s' u):=by
  rintro k n rfl;have slice:(eD P t i d).isSlice=true->∃ e,d=.slice e/\P.info? e=some ie:=λhs=>by
   cases d <;>simp[eD]at hs;grind [eD]
  have arr:(eD P t i d).auj=true->∃ len e,d=.array len e/\P.info? e=some ie/\(eD P t i d).len=len:=λhs=>by
   cases d <;>simp[eD]at hs;grind [eD]
  cases hr with
  |rs cf h0 h0' h1 h2=>
   rename_i Y l b o cap;simp[iO]at O;cases V:(eD P t i d).isSlice&&Nat.beq te.size (ae Y)with
   |false=>grind
   |true=>
    rw[V]at O;simp only[ap9]at V;obtain⟨e,rfl,E⟩:=slice V.1;have hsz:te.size=ae Y:=ap_ V.2;refine⟨_,_,O.symm,λhc=>⟨_,tC hd E hc.1 XM,?_⟩⟩;have hlt:n.toNat<l.length:=XM
    have:=Rel.ep (F:=F) (own:=own) (w:=w) (cells:=cellsOf Y (l.getD n.toNat (eT Y))) (off:=0) (b:=b) (o:=o+n.toNat*ae Y) (cf n.toNat)
     (λj s hj=>h1 n.toNat _ (vh hlt) j s hj) (λj s hj=>h2 n.toNat _ (vh hlt) j s hj)
    grind
  |rs0=>
   simp[iO]at O;grind
  |os h1 h2=>
   rename_i id hdd;simp[iO]at O;cases V:(eD P t i d).isSlice with
   |false=>grind
   |true=>
    obtain⟨e,rfl,E⟩:=slice V;cases ho:aq h id with
    |row Y l=>
     rw[ho]at O;simp[M_]at O;cases X:Nat.beq te.size (ae Y)with
     |false=>grind
     |true=>
      rw[X]at O;have⟨hd',e0,e1⟩:=hp.at ho rfl;rw[h1]at e0;cases e0;refine⟨_,_,O.symm,λhc=>?_⟩;rcases e1 with⟨a,q1,rfl,_⟩ | ⟨b,o,cap,cs,ty,q1,q2,q3,q4,q5,q6,q7⟩;grind
      rw[q1];refine⟨_,tC hd E hc.1 XM,?_⟩;have:=Rel.rp (F:=F) (own:=own) (w:=w) (sz:=te.size) (off:=0) (i:=n) h1 q1 XM;grind
    |atH Y l=>
     rw[ho]at O;simp[M_]at O;cases X:Nat.beq te.size 1 with
     |false=>grind
     |true=>
      rw[X]at O;have hsz:=ap_ X;have⟨hd',e0,e1⟩:=hp.at ho rfl;rw[h1]at e0;cases e0;refine⟨_,_,O.symm,λhc=>?_⟩;rcases e1 with⟨q1,rfl,_⟩ | ⟨b,o,cap,cs,ty,bs,q1,q2,q3,q4,q5,q6,q7,q8,q9⟩;grind
      rw[q1];refine⟨_,tC hd E hc.1 XM,?_⟩;have:=Rel.rp (F:=F) (own:=own) (w:=w) (sz:=1) (off:=0) (i:=n) h1 q1 XM;grind
    |_=>rw[ho]at O;exact absurd O.symm W
  |gr h1 h2 h3=>
   rename_i id q hdd;simp[iO]at O;cases V:(eD P t i d).isSlice with
   |false=>grind
   |true=>
    obtain⟨e,rfl,E⟩:=slice V;cases ho:aq h id with
    |atH Y l=>
     rw[ho]at O;simp only[Su]at O;cases X:Nat.beq te.size (ae Y)with
     |false=>grind
     |true=>
      rw[X]at O;have⟨hd',e0,e1⟩:=hp.at ho rfl;rw[h1]at e0;cases e0;refine⟨_,_,O.symm,λhc=>?_⟩;rcases e1 with⟨_,_,q1,_⟩ | ⟨b,o,cap,cs,ty,bs,q1,q2,q3,q4,q5,q6,q7,q8,q9⟩;grind
      have⟨b1,k1,k2,k3,k4⟩:=q9.get h2;rcases k3 with⟨a,m1,m2,_⟩ | ⟨b2,o2,cap2,cs2,ty2,m1,m2,m3,m4,m5,m6,m7⟩;grind
      subst m1;refine⟨_,tC hd E hc.1 XM,?_⟩;have:=Rel.gp (F:=F) (own:=own) (w:=w) (sz:=te.size) (off:=0) (i:=q) (j:=n) h1 h2 XM;grind
    |_=>rw[ho]at O;exact absurd O.symm W
  |ls cf hz h0 h1 h2=>
   rename_i s m l b o cap;simp[iO]at O;cases V:(eD P t i d).isSlice&&Nat.beq te.size s with
   |false=>grind
   |true=>
    rw[V]at O;simp only[ap9]at V;obtain⟨e,rfl,E⟩:=slice V.1;have hsz:=ap_ V.2;unfold Sv at O;cases hx:Nat.ble 1 s&&Nat.ble (n.toNat*s+s) (sz l)with
    |false=>rw[hx]at O;exact absurd O.symm W
    |true=>
     rw[hx]at O;simp only[ap9,tB]at hx;have g1:=nbl hx.1;have g2:=nbl hx.2;have hlt:n.toNat<m:=Nat.lt_of_mul_lt_mul_right (a:=s) XM;refine⟨_,_,O.symm,λhc=>⟨_,tC hd E hc hlt,?_⟩⟩;have:=Rel.ep (F:=F) (own:=own) (w:=w) (cells:=l) (off:=n.toNat*s) (b:=b) (o:=o) cf h1 h2;grind
  |ptr h1 h2=>
   simp[iO]at O;cases V:(eD P t i d).auj with
   |false=>grind
   |true=>
    obtain⟨len,e,rfl,E,hl⟩:=arr V;exact⟨_,_,O.symm,λhc=>⟨_,DO hd E hc,by rw[<-hes];exact .ptr h1 h2⟩⟩
  |ep cf h1 h2=>
   simp[iO]at O;cases V:(eD P t i d).auj with
   |false=>grind
   |true=>
    obtain⟨len,e,rfl,E,hl⟩:=arr V;exact⟨_,_,O.symm,λhc=>⟨_,DO hd E hc,by rw[<-hes,arx];exact .ep cf h1 h2⟩⟩
  |rp h1 h2 h3=>
   simp[iO]at O;cases V:(eD P t i d).auj with
   |false=>grind
   |true=>
    obtain⟨len,e,rfl,E,hl⟩:=arr V;exact⟨_,_,O.symm,λhc=>⟨_,DO hd E hc,by rw[<-hes,arx];exact .rp h1 h2 h3⟩⟩
  |_=>simp only[iO]at O;exact absurd O.symm W
 cases hri with
 |v=>
  cases vi with
  |int k n=>grind
  |_=>cases s <;>first|(simp only[iO]at O;exact absurd O.symm W) |(exact absurd O.symm W)
 |_=>cases s <;>first|(simp only[iO]at O;exact absurd O.symm W) |(exact absurd O.symm W)
variable {k':IntKind}
theorem SI(h:Nat.beq (kN k) (kN k')=true):k=k':=by
 cases k <;>cases k' <;>simp[kN]at h <;>rfl
theorem PS{op:BinOp}(h:E5 op k k'=true)(h1:op≠ .shl)(h2:op≠ .shr):k=k':=by
 cases op <;>simp only[E5]at h <;>first|exact SI h|exact absurd rfl h1|grind
variable {a:Int}{ty:TypeId}
theorem We{op:BinOp}{b:Int}{s:SV}(E:E5 op k k'=true)(h:wZ op k a b=.val s):∃ u,(binOp op ty (.int k a) (.int k' b)).run P w=.ok u w/\s=.v u:=by
 by_cases h1:op=.shl
 grind [wZ]
 by_cases h2:op=.shr
 grind [wZ]
 obtain rfl:=PS E h1 h2;cases op <;>simp[wZ]at h <;>subst h <;>exact⟨_,by simp[binOp,Op.intArith,Op.intCmp,Op.intBits,akh,orI,aki,Um],rfl⟩
theorem Wf{op:BinOp}{b:Int}{s:SV}{c:Prop}(O:E5 op k k'=true)(h:wZ op k a b=.chk c s)(hc:c):∃ u,(binOp op ty (.int k a) (.int k' b)).run P w=.ok u w/\s=.v u:=by
 by_cases E:op=.shr
 subst E;simp only[wZ,OR.chk.injEq]at h;have⟨rfl,rfl⟩:=h;simp[binOp];unfold Op.shift;rw[if_neg (Int.not_lt.2 hc)];rfl;by_cases h1:op=.shl
 subst h1;simp only[wZ,OR.chk.injEq]at h;have⟨rfl,rfl⟩:=h;simp[binOp];unfold Op.shift;rw[if_neg (Int.not_lt.2 hc)];rfl;obtain rfl:=PS O h1 E;cases op <;>simp only[wZ,reduceCtorEq]at h <;>first|exact absurd rfl E|exact absurd rfl h1|(obtain⟨rfl,rfl⟩:=h;exact⟨_,by simp[binOp,Op.intDiv,hc],rfl⟩)
theorem w_ {k k':Tag}(h:Nat.beq (B9 k) (B9 k')=true):k=k':=by
 have h':=ap_ h;cases k <;>cases k' <;>first|rfl|(simp[B9]at h';done)
theorem E9 (op:BinOp)(t:TypeId)(x y:Operand)(k k':IntKind)(a b:Int):(eqGuard op t x y (.int k a) (.int k' b)).run P w=.ok () w:=by
 simp_all [eqGuard]
theorem SJ{op:BinOp}{b:Int}{r:OR}(h:afg op (.v (.int k a)) (.v (.int k' b))=r)(hr:r≠ .bad):E5 op k k'=true/\r=wZ op k a b:=by
 grind [afg]
end
def atP (F:Nat->Prop)(b:Own)(w:World)(l:List SV)(a:Array Value):Prop:=a.size=l.length/\∀ (j:Nat) (s:SV),l[j]? =some s->Rel F b w s (a.getD j undef)
section
variable {P:Program}{F:Nat->Prop}{own:Own}{w:World}
theorem LL (off:Nat):∀ (l:List Value) (k:Nat) (cs:Array Value),off+k+l.length<=cs.size->
  ((l.zipIdx k).foldl (λ(cs:Array Value) (x:Value×Nat) =>cs.setIfInBounds (off+x.2) x.1) cs).size=cs.size/\
  ∀ j,((l.zipIdx k).foldl (λ(cs:Array Value) (x:Value×Nat) =>cs.setIfInBounds (off+x.2) x.1) cs)[j]? =if off+k<=j/\j<off+k+l.length then l[j - off - k]? else cs[j]?
 | [],k,cs,_=>by
  simp_all [if_neg]
 |x::xs,k,cs,h=>by
  simp[aqc]at h;have⟨h1,h2⟩:=LL off xs (k+1) (cs.setIfInBounds (off+k) x) (by simp;omega);simp[List.zipIdx_cons];grind
theorem PU (v:Value)(off:Nat)(cs:Array Value)(h:off+v.cells.size<=cs.size):
  (v.cells.zipIdx.foldl (λcs (c,j) =>cs.setIfInBounds (off+j) c) cs).size=cs.size/\
  ∀ j,(v.cells.zipIdx.foldl (λcs (c,j) =>cs.setIfInBounds (off+j) c) cs)[j]? =if off<=j/\j<off+v.cells.size then v.cells[j - off]? else cs[j]?:=by
 have:=LL off v.cells.toList 0 cs (by simpa using h);grind [Array.toList_zipIdx]
theorem wn {vs ws:Array Value}{i j:Nat}(h:vs[i]? =ws[j]?):vs.getD i undef=ws.getD j undef:=by
 simp_all
theorem GC {E place':Nat->Option (Nat×Nat)}(hpl:∀ i,place' i=E i):∀ (W:List (Nat×SV)) (vps:List (Nat×Value)) (cells l:List SV) (vs:Array Value),atP F own w cells vs->
  (W.map (·.1)=vps.map (·.1))->(∀ (j:Nat) (x:Nat×SV) (y:Nat×Value),W[j]? =some x->vps[j]? =some y->Rel F own w x.2 y.2)->mY E cells W=some l->
  ∃ V,Instr.fill place' vs vps=some V/\atP F own w l V
 | [],[],cells,l,vs,hr,_,_,h=>by
  simp[mY]at h;subst h;exact⟨vs,rfl,hr⟩
 | [],_::_,_,_,_,_,h,_,_=>by simp at h
 |_::_,[],_,_,_,_,h,_,_=>by simp at h
 |(i,s)::W,(i',v)::vps,cells,l,vs,hr,X,O,h=>by
  simp[aqZ,arP]at X;have⟨rfl,X⟩:=X;have h0:Rel F own w s v:=O 0 _ _ rfl rfl;simp[mY]at h;cases hp:E i with
  |none=>grind
  |some os=>
   have⟨off,size⟩:=os;cases hf:rI s with
   |none=>grind
   |some xs=>
    simp[hp,hf]at h;cases Y:Nat.beq (sz xs) size&&Nat.ble (off+size) (sz cells)with
    |false=>grind
    |true=>
     rw[Y]at h;simp only[ap9,tB]at Y;have e1:xs.length=size:=ap_ Y.1;have e2:off+size<=cells.length:=nbl Y.2;have⟨f1,f2⟩:=Hr h0 hf;have hle:off+v.cells.size<=vs.size:=by rw[hr.1];omega
     have⟨g1,g2⟩:=PU v off vs hle;have hr':atP F own w (il cells off xs) (v.cells.zipIdx.foldl (λcs (c,j) =>cs.setIfInBounds (off+j) c) vs):=by
      refine⟨by rw[g1,pa];exact hr.1,λj x hj=>?_⟩;rw[qC _ _ _ XM]at hj;by_cases hjr:off<=j/\j<off+xs.length
      simp_all;rw[if_neg hjr]at hj;have:=hr.2 _ _ hj;simp_all [if_neg]
     have⟨V,q1,q2⟩:=GC hpl W vps _ l _ hr' X (λj x y hx hy=>O (j+1) x y hx hy) h;simp_all [Instr.fill]
theorem qD {k:Kd}{s:SV}{v:Value}(h:Rel F own w s v):Rel F own w (Ps k s) v:=by
 unfold Ps;split;have:=cV h;subst this;exact .rs0;cases h;exact .rs0;have:=cV h;subst this;exact .rm0;exact h
theorem Cv:∀ (ks:List Kd) (l:List SV),(Bw ks l).length=l.length
 | [],l=>by simp[Bw]
 |k::ks,[] =>by simp[Bw]
 |k::ks,s::r=>by simp[Bw,Cv ks r]
theorem xa:∀ (ks:List Kd) (l:List SV) (j:Nat) (s:SV),(Bw ks l)[j]? =some s->∃ s0,l[j]? =some s0/\(s=s0\/∃ k,s=Ps k s0)
 | [],l,j,s,h=>⟨s,by grind [Bw],.inl rfl⟩
 |k::ks,[],j,s,h=>by simp[Bw]at h
 |k::ks,x::r,0,s,h=>by grind [Bw]
 |k::ks,x::r,j+1,s,h=>by simpa using xa ks r j s h
variable {l:List SV}
theorem atP.nrm{ks:List Kd}{vs:Array Value}(h:atP F own w l vs):atP F own w (Bw ks l) vs:=
 ⟨by rw[Cv];exact h.1,λj s V=>by
  obtain⟨s0,O,E| ⟨k,E⟩⟩:=xa _ _ _ _ V;subst E;exact h.2 j _ O;subst E;exact qD (h.2 j _ O)⟩
theorem LM {E:Nat->Option (Nat×Nat)}:∀ (O:List (Nat×SV)) (cells l:List SV),mY E cells O=some l->l.length=cells.length
 | [],cells,l,h=>by grind [mY]
 |(i,v)::O,cells,l,h=>by
  simp[mY]at h;split at h
  rename_i off size vs _ _;cases V:Nat.beq (sz vs) size&&Nat.ble (off+size) (sz cells)with
  |false=>grind|true=>rw[V]at h;rw[LM O _ _ h,pa]
  cases h
theorem Ar (v:Value):atP F own w (svs v) v.cells:=by
 refine⟨by simp[svs],λj s E=>?_⟩;simp[svs]at E;obtain⟨z,O,rfl⟩:=E;simp[O];exact .v _
theorem PV {fs:List Field}:(fs.all λf=>(P.info? f.type).isSome&&(P.underlying f.type).isSome)=true->
  fs.mapM (λf=>(P.info? f.type).map λi=>(f.offset,i.size))=some (fs.map λf=>(f.offset,pY P f.type)):=by
 induction fs with
 |nil=>intro _;rfl
 |cons f fs E=>
  grind [pY]
variable {t:TypeId}{ti:TI}
theorem Yi(ht:jZ P t=some ti){V:List (Nat×SV)}{vps:Array (Nat×Value)}(hm:V.map (·.1)=vps.toList.map (·.1))
  (O:∀ (j:Nat) (x:Nat×SV) (y:Nat×Value),V[j]? =some x->vps.toList[j]? =some y->Rel F own w x.2 y.2)
  (h:(ti.auj=true/\∃ te,jZ P ti.elem=some te/\mY (λi=>some (i*te.size,te.size)) ti.zero V=some l)\/
     (ti.auj=false/\ti.agg=true/\mY (λi=>(nth ti.fields i).map λf=>(f.1,f.2.1)) ti.zero V=some l)):
  ∃ u,(Instr.build t vps).run P w=.ok u w/\Rel F own w (.agg l) u:=by
 obtain⟨i,d,z,hi,hd,hz,hq,rfl⟩:=bY ht;have E:(eD P t i d).zero=svs z:=by simp[eD,hz]
 rcases h with⟨X,te,hte,W⟩ | ⟨X,hg,W⟩;have⟨ie,de,ze,hie,hde,hze,hqe,he⟩:=bY hte;cases d <;>simp[eD]at X;simp[eD]at hie;rw[E]at W;have Y:te.size=ie.size:=by rw[he];rfl
 have⟨vs',q1,q2⟩:=GC (place':=λi=>some (i*ie.size,ie.size)) (λi=>by rw[Y]) V vps.toList _ l z.cells (Ar z) hm O W;exact⟨.agg vs',run_build w t vps vs' (by grind [Program.built]),.agg q2.1 q2.2⟩;cases d with
 |struct fs=>
  rw[E]at W;have hmp:=PV (P:=P) (fs:=fs.toList) (by grind [Ch]);have⟨vs',q1,q2⟩:=GC (place':=λi=>(fs.toList.map λf=>(f.offset,pY P f.type)).toArray[i]?) (λi=>by
   simp[eD,gW];rfl) V vps.toList _ l z.cells (Ar z) hm O W
  exact⟨.agg vs',run_build w t vps vs' (by grind [Program.built]),.agg q2.1 q2.2⟩
 |array len e=>simp[eD]at X|_=>simp[eD,lw,hd]at hg
theorem PW (z:List SV)(E:0<z.length):∀ (n i:Nat),(FL n z)[i]? =if i<n*z.length then z[i % z.length]? else none
 |0,i=>by simp[FL]
 |n+1,i=>by
  rw[FL,aq7];by_cases hi:i<z.length
  rw[if_pos hi,if_pos XN,asG hi];rw[PW z E n];by_cases O:i - z.length<n*z.length
  grind [Nat.mod_eq_sub_mod]
  grind
theorem zx (z:List SV):∀ n,(FL n z).length=n*z.length
 |0=>by simp[FL]
 |n+1=>by rw[FL,aqk,zx z n,asO];omega
theorem LN {s:SV}(h:fit .s s=true): .v (.string (toS s))=s:=by
 cases s <;>simp only[fit,aqy]at h;rename_i x;cases x <;>simp only[aqy]at h;rfl
theorem LO {s:SV}(h:fit .b s=true): .v (.bool (toB s))=s:=by
 cases s <;>simp only[fit,aqy]at h;rename_i x;cases x <;>simp only[aqy]at h;rfl
variable {k:IntKind}
theorem ach{k':IntKind}(h:Nat.beq (kN k) (kN k')=true):k=k':=by
 cases k <;>cases k' <;>first|rfl|(simp[kN]at h;done)
theorem LP{s:SV}(h:fit (.n k) s=true): .v (.int k (toI s))=s:=by
 cases s <;>simp only[fit,aqy]at h;rename_i x;cases x <;>simp only[aqy]at h;have:=ach h;subst this;rfl
theorem yU {k:Tag}{s:SV}(h:fit (.r k) s=true):∃ l,s=.rs k l:=by
 cases s <;>simp only[fit,aqy]at h;have:=w_ h;subst this;grind
theorem aee {k k2:Tag}{s:SV}(h:fit (.m k k2) s=true):∃ l,s=.rm k k2 l:=by
 cases s <;>simp only[fit,aqy]at h;simp only[ap9]at h;have E:=w_ h.1;have O:=w_ h.2;subst E;subst O;grind
theorem SK {s:SV}(h:fit (.r .reach) s=true): .rs .reach (Ao s)=s:=by obtain⟨l,rfl⟩:=yU h;rfl
theorem Wg {s:SV}(h:fit (.r .gl) s=true): .rs .gl (B_ s)=s:=by obtain⟨l,rfl⟩:=yU h;rfl
theorem Wh {s:SV}(h:fit (.r .at9) s=true): .rs .at9 (Ca s)=s:=by obtain⟨l,rfl⟩:=yU h;rfl
theorem SL {s:SV}(h:fit (.r .right) s=true): .rs .right (Ap s)=s:=by obtain⟨l,rfl⟩:=yU h;rfl
theorem Wi {s:SV}(h:fit (.r .aul) s=true): .rs .aul (Cb s)=s:=by obtain⟨l,rfl⟩:=yU h;rfl
theorem Yj {s:SV}(h:fit (.r .int) s=true): .rs .int (Cc s)=s:=by obtain⟨l,rfl⟩:=yU h;rfl
theorem Wj {s:SV}(h:fit (.r .auq) s=true): .rs .auq (Cd s)=s:=by obtain⟨l,rfl⟩:=yU h;rfl
theorem Wk {s:SV}(h:fit (.r .part) s=true): .rs .part (G0 s)=s:=by obtain⟨l,rfl⟩:=yU h;rfl
theorem PY {s:SV}(h:fit (.r .ath) s=true): .rs .ath (Bv s)=s:=by obtain⟨l,rfl⟩:=yU h;rfl
theorem SN {s:SV}(h:fit (.r .B1) s=true): .rs .B1 (DF s)=s:=by obtain⟨l,rfl⟩:=yU h;rfl
theorem SO {s:SV}(h:fit (.r .order) s=true): .rs .order (LG s)=s:=by obtain⟨l,rfl⟩:=yU h;rfl
theorem Wl {s:SV}(h:fit (.r .ints) s=true): .rs .ints (Pp s)=s:=by obtain⟨l,rfl⟩:=yU h;rfl
theorem AS {s:SV}(h:fit (.m .X2 .bool) s=true): .rm .X2 .bool (lu s)=s:=by obtain⟨l,rfl⟩:=aee h;rfl
theorem Nr {s:SV}(h:fit (.m .int .int) s=true): .rm .int .int (zo s)=s:=by obtain⟨l,rfl⟩:=aee h;rfl
theorem akt {s:SV}(h:fit .f s=true):fnV (toF s)=s:=by
 unfold fit at h;split at h <;>first|rfl|simp_all
theorem rT{k:Kd}{ks:List Kd}(h:wX (k::ks) l=true):∃ x r,l=x::r/\fit k x=true/\wX ks r=true:=by
 cases l with
 |nil=>simp[wX]at h|cons x r=>grind [wX]
theorem xb(h:wX [] l=true):l=[]:=by
 grind [wX]
variable {k:Tag}{x:k.T}
theorem tD(h:yQ k l=some x):cellsOf k x=l:=by
 unfold yQ at h;cases E:wX (dX k) l with
 |false=>grind
 |true=>
  simp[E,cond_true,aqd]at h;subst h;cases k <;>simp only[dX]at E <;>
   (repeat (obtain⟨_,_,rfl,_,E⟩:=rT E)) <;>(obtain rfl:=xb E) <;>
   simp_all [cellsOf,mkE,at0,LN,LP,LO,akt,SK,Wg,Wh,SL,Wi,Yj,Wj,Wk,PY,SN,SO,Wl,AS,Nr
   ]
def nZ(h:qy k l=some x):cellsOf k x=Bw (dX k) l:=tD h
theorem Ht(h:qy k l=some x){vs:Array Value}(hr:atP F own w l vs):atP F own w (cellsOf k x) vs:=by
 rw[nZ h];exact hr.nrm
theorem SP(h:qy k l=some x):l.length=ae k:=by
 rw[<-cb k x,nZ h,Cv]
theorem DP(x:k.T):qy k (cellsOf k x)=some x:=by
 cases k <;>first|rfl|(cases x <;>rfl)
theorem E_{y:k.T}(h:cellsOf k x=cellsOf k y):x=y:=by
 grind [DP]
theorem Ks (k:Tag):0<ae k:=by cases k <;>simp[ae]
theorem Hu {k:Tag}{size:Nat}(W:size=ae k):∀ (n:Nat) (l:List SV) (xs:List k.T),ul k size n l=some xs->
  xs.length=n/\∀ (i:Nat) (x:k.T),xs[i]? =some x->∀ (j:Nat) (s:SV),(cellsOf k x)[j]? =some s->∃ s0,l[i*size+j]? =some s0/\(s=s0\/∃ q,s=Ps q s0)
 |0,l,xs,h=>by
  grind [ul]
 |n+1,l,xs,h=>by
  simp only[ul,No,GB]at h;cases O:qy k (l.take size)with
  |none=>grind
  |some y=>
   cases hr:ul k size n (l.drop size)with
   |none=>grind
   |some X=>
    simp only[O,hr,aqd]at h;subst h;obtain⟨h1,h2⟩:=Hu W n _ _ hr;refine⟨by simp[h1],λi x E j s V=>?_⟩;cases i with
    |zero=>
     simp at E;subst E;rw[nZ O]at V;have⟨s0,e1,e2⟩:=xa _ _ _ _ V;grind
    |succ i=>
     simp at E;grind
variable {ps:List (Nat×SV)}
theorem PZ{i:TypeInfo}{e:TypeId}{E:TypeInfo}{O:Value}(hi:P.info? t=some i)(hd:P.underlying t=some (.slice e))(hie:P.info? e=some E)(hze:E.zero=some O)(hzl:O.cells.size=E.size){n:Nat}{vps:Array (Nat×Value)}
  (hm:ps.map (·.1)=vps.toList.map (·.1)) (X:∀ (j:Nat) (x:Nat×SV) (y:Nat×Value),ps[j]? =some x->vps.toList[j]? =some y->Rel F own w x.2 y.2)
  (hf:mY (λi=>some (i*E.size,E.size)) (FL n (svs O)) ps=some l) (hpos:0<E.size) (hle:n*E.size<=16777216):
  ∃ V,(Instr.buildSlice t n vps).run P w=.ok (.slice (some ⟨w.heap.size,0,none⟩) n n) (w.alloc (.cells V e))/\atP F own w l V/\V.size=n*E.size:=by
 have W:(svs O).length=E.size:=by simp[svs,hzl]
 let cz:Array Value:=if n*E.size=0 then #[]else O.cells
 have hz0:atP F own w (FL n (svs O)) ((Array.range (n*E.size)).map (cz[· % cz.size]!)):=by
  refine⟨by simp[zx,W],λj s hj=>?_⟩;rw[PW _ XM]at hj;by_cases hjn:j<n*(svs O).length
  have Y:cz=O.cells:=XN
  have hm1:j % O.cells.size<O.cells.size:=ar8 _ XM;have:=(Ar (F:=F) (own:=own) (w:=w) O).2 (j % O.cells.size) s XN;simp_all;grind
 have⟨V,q1,q2⟩:=GC (place':=λi=>some (i*E.size,E.size)) (λi=>rfl) ps vps.toList _ l _ hz0 hm X hf;refine⟨V,?_,q2,?_⟩;simp[Instr.buildSlice,aqF,run_underlying hd,aqK,dU hie];by_cases hn0:n*E.size=0
 have Y:cz= #[]:=XN
 simp_all [newRow];have Y:cz=O.cells:=XN
 simp_all [zeroValue,typeInfo,newRow];have h1:=LM _ _ _ hf;rw[q2.1,h1,zx,W]
variable {h:List Ob}
theorem awJ(W:Hp F own w h):¬dn F own w.heap.size:=by
 rintro (V| ⟨id,hd',O,E⟩);exact arh _ (W.atu _ V);exact arh _ (W.lt id hd' _ O E)
theorem afz(hp:Hp F own w h){te:TI}(ht:jZ P t=some ti)(hte:jZ P ti.elem=some te){n:Nat}{vps:Array (Nat×Value)}
  (hm:ps.map (·.1)=vps.toList.map (·.1)) (aun:∀ (j:Nat) (x:Nat×SV) (y:Nat×Value),ps[j]? =some x->vps.toList[j]? =some y->Rel F own w x.2 y.2) {r:OR}
  (E:bsS ti te n ps=r) (hr:r≠ .bad):
  ∃ s cs ty u,r=.auh s/\(Instr.buildSlice t n vps).run P w=.ok u (w.alloc (.cells cs ty))/\Rel F own (w.alloc (.cells cs ty)) s u/\∀ (k:Tag) (xs:List k.T),s=.rs k xs->u=.slice (some ⟨w.heap.size,0,none⟩) xs.length xs.length/\xs.length*ae k<=cs.size/\xs.length<=aD/\atT F own w k xs 0 cs:=by
 obtain⟨i,d,z,hi,hd,hz,hq,rfl⟩:=bY ht;obtain⟨ie,de,ze,W,hde,hze,hqe,he⟩:=bY hte;have V:te.size=ie.size:=by rw[he];rfl
 have O:te.zero=svs ze:=by simp_all [eD]
 have hg:∀ cs ty,at4 F own w own (w.alloc (.cells cs ty)):=λcs ty=>at4.below F own (tA w _);have Y:=awJ hp;unfold bsS at E;cases hn:Nat.beq n 0 with
 |true=>
  have hn0:=ap_ hn;subst hn0;cases d with
  |slice e=>
   subst E;have hps:ps=[]:=by
    grind
   simp[eD]at W;have hv:vps= #[]:=by
    simp_all
   subst hv;subst hps;refine⟨_,#[],e,.slice (some ⟨w.heap.size,0,none⟩) 0 0,rfl,?_,.e0,λ_ _ e=>(by cases e)⟩;have he0:Array.map (λ(_:Nat) =>(default:Value)) (Array.range 0)= #[]:=asj (by simp);simp[Instr.buildSlice,run_underlying hd,dU W,Instr.fill,newRow,he0]
  |_=>simp[eD]at E;exact absurd E.symm hr
 |false=>
 rw[hn]at E;rw[V]at E;cases hf:mY (λi=>some (i*ie.size,ie.size)) (FL n te.zero) ps with
 |none=>
  rw[hf]at E;exfalso;cases X:afl te.tag with
  |none=>rw[X]at E;exact hr E.symm|some k=>rw[X]at E;cases hio:abZ ps <;>rw[hio]at E <;>exact hr E.symm
 |some l=>
 have typed:∀ k,bsT k (eD P t i d) te n (some l)=r->∃ s cs ty u,r=.auh s/\(Instr.buildSlice t n vps).run P w=.ok u (w.alloc (.cells cs ty))/\Rel F own (w.alloc (.cells cs ty)) s u/\∀ (k:Tag) (xs:List k.T),s=.rs k xs->u=.slice (some ⟨w.heap.size,0,none⟩) xs.length xs.length/\xs.length*ae k<=cs.size/\xs.length<=aD/\atT F own w k xs 0 cs:=by
  intro k E;simp[bsT]at E;cases hc:Nat.beq te.size (ae k)&&(eD P t i d).isSlice&&Nat.ble (n*te.size) 16777216&&Nat.beq (sz te.zero) te.size with
  |false=>rw[hc]at E;exact absurd E.symm hr
  |true=>
  rw[hc]at E;simp only[ap9,tB]at hc;have⟨⟨⟨c1,c2⟩,c3⟩,c4⟩:=hc;have c1:=ap_ c1;have c3:=nbl c3;have c4:=ap_ c4;cases hel:ul k te.size n l with
  |none=>rw[hel]at E;exact absurd E.symm hr
  |some xs=>
  rw[hel]at E;subst E;cases d with
  |slice e=>
   have hpos:0<te.size:=by rw[c1];exact Ks k
   have hzl:ze.cells.size=ie.size:=by rw[<-V,<-c4,O];simp[svs]
   rw[O]at hf;have⟨vs',q1,q2,q3⟩:=PZ hi hd W hze hzl hm aun hf XM (by rw[<-V];exact c3);have⟨x1,x2⟩:=Hu c1 n l xs hel;refine⟨_,vs',e,_,rfl,q1,?_,?_⟩
   rotate_left
   intro k' xs' e';cases e';refine⟨by rw[x1],?_,by have:n<=n*te.size:=arl n hpos;unfold aD;omega,λi x hx j s hj=>?_⟩;grind
   have⟨s0,h1,h2⟩:=x2 i x hx j s hj;rw[c1]at h1;have hlt:i*ae k+j<vs'.size:=by rw[q2.1];exact(aqe.1 h1).1
   have h3:=q2.2 _ _ h1;refine⟨vs'.getD (i*ae k+j) undef,by simp_all,?_⟩;rcases h2 with rfl| ⟨q,rfl⟩;exact h3;exact qD h3;have:=Rel.rs (F:=F) (own:=own) (w:=w.alloc (.cells vs' e)) (k:=k) (l:=xs) (b:=w.heap.size) (o:=0) (cap:=xs.length) (λi j=>vs'.getD (i*ae k+j) undef) (aqb _)
    (by have:n<=n*te.size:=arl n hpos;unfold aD;omega)
    (λi x hx j s hj=>⟨Y,by
     have⟨s0,h1,_⟩:=x2 i x hx j s hj;rw[c1]at h1;have hlt:i*ae k+j<vs'.size:=by rw[q2.1];exact(aqe.1 h1).1
     simp[hlt]⟩)
    (λi x hx j s hj=>by
     have⟨s0,h1,h2⟩:=x2 i x hx j s hj;rw[c1]at h1;have h3:=(q2.2 _ _ h1).mono (hg vs' e);rcases h2 with rfl| ⟨q,rfl⟩;exact h3;exact qD h3)
   grind
  |_=>simp[eD]at c2
 have untyped:bsU (eD P t i d) te n (some l)=r->∃ s cs ty u,r=.auh s/\(Instr.buildSlice t n vps).run P w=.ok u (w.alloc (.cells cs ty))/\Rel F own (w.alloc (.cells cs ty)) s u/\∀ (k:Tag) (xs:List k.T),s=.rs k xs->u=.slice (some ⟨w.heap.size,0,none⟩) xs.length xs.length/\xs.length*ae k<=cs.size/\xs.length<=aD/\atT F own w k xs 0 cs:=by
  intro E;simp[bsU]at E;cases hc:(eD P t i d).isSlice&&Nat.ble 1 te.size&&Nat.ble (n*te.size) 16777216&&Nat.beq (sz te.zero) te.size with
  |false=>rw[hc]at E;exact absurd E.symm hr
  |true=>
  simp[lsS]at E;simp only[ap9,tB]at hc;have⟨⟨⟨c2,c1⟩,c3⟩,c4⟩:=hc;have c1:=nbl c1;have c3:=nbl c3;have c4:=ap_ c4;cases hc2:Nat.beq (sz l) (n*te.size)&&xR l with
  |false=>grind
  |true=>
  simp only[ap9,tB]at hc2;have hln:=ap_ hc2.1;cases d with
  |slice e=>
   have hzl:ze.cells.size=ie.size:=by rw[<-V,<-c4,O];simp[svs]
   rw[O]at hf;have⟨vs',q1,q2,q3⟩:=PZ hi hd W hze hzl hm aun hf XM (by rw[<-V];exact c3);have:=Rel.ls (F:=F) (own:=own) (w:=w.alloc (.cells vs' e)) (z:=te.size) (n:=n) (l:=l) (b:=w.heap.size) (o:=0) (cap:=n) (λj=>vs'.getD j undef) hln.symm (aqb _)
    (λj s hj=>⟨Y,by
     have hlt:j<vs'.size:=XN
     simp[hlt]⟩)
    (λj s hj=>(q2.2 _ _ hj).mono (hg vs' e))
   grind
  |_=>simp[eD]at c2
 unfold bsG at E;grind
end
structure av9 (b:Nat)(ty:TypeId)(cs':Array Value)(w w':World):Prop where
 here:w'.heap[b]? =some (.cells cs' ty (0,0))
 size:w'.heap.size=w.heap.size
 other:∀ k,k≠b->w'.heap[k]? =w.heap[k]?
 os:w'.os=w.os
 tape:w'.tape=w.tape
 output:w'.output=w.output
section
variable {P:Program}{F:Nat->Prop}{own:Own}{w:World}
theorem kL {b o:Nat}{ty:TypeId}:∀ (vs:List Value) (i:Nat) (w:World) (cs:Array Value),w.heap[b]? =some (.cells cs ty (0,0))->o+i+vs.length<=cs.size->(∀ v∈vs,v.oneCell'=true)->
  ∃ E w',(storeCells ⟨b,o,none⟩ vs i).run P w=.ok () w'/\av9 b ty E w w'/\E.size=cs.size/\∀ j,E[j]? =if o+i<=j/\j<o+i+vs.length then vs[j - (o+i)]? else cs[j]?
 | [],i,w,cs,W,_,_=>by
  refine⟨cs,w,by rfl,⟨W,rfl,λ_ _=>rfl,rfl,rfl,rfl⟩,rfl,λj=>?_⟩;grind
 |v::vs,i,w,cs,W,X,V=>by
  simp[aqc]at X;have hlt:o+i<cs.size:=XM
  have hcell:w.cell? ⟨b,o+i,none⟩=some cs[o+i]:=by rw[eU W];simp[hlt]
  have hrun:(store (Addr.add ⟨b,o,none⟩ i) v).run P w=.ok () (w.setCell ⟨b,o+i,none⟩ v):=by
   grind [pb,run_store,Hs]
  have O:=setCell_eq_setRow w b (o+i) cs ty (0,0) v W;have Y:(w.setCell ⟨b,o+i,none⟩ v).heap[b]? =some (.cells (cs.setIfInBounds (o+i) v) ty (0,0)):=by
   rw[O];exact setRow_heap w b cs _ ty (0,0) W
  have⟨E,w',e1,e2,e3,e4⟩:=kL (o:=o) vs (i+1) _ _ Y (by simp;omega) (λv hv=>V v (by simp[hv]));refine⟨E,w',?_,⟨e2.here,by rw[e2.size];simp,λk hk=>?_,by rw[e2.os];rfl,by rw[e2.tape];rfl,by rw[e2.output];rfl⟩,by rw[e3];simp,λj=>?_⟩;grind [storeCells,Sem.run_bind,Result.andThen_ok]
  rw[e2.other k hk,O];exact setRow_other w b k _ hk;grind
variable {v:Value}
theorem Yk{s:SV}(h:Sw s=true)(hr:Rel F own w s v):v.oneCell'=true:=by
 cases hr <;>first|rfl|(exact nY (by assumption)) |(simp[Sw]at h;done) |(rename_i x;cases x <;>first|rfl|(simp[Sw]at h;done)) |(cases v <;>first|rfl|(simp[Sw]at h;done))
theorem Fa:∀ {l:List SV},xR l=true->∀ (j:Nat) (s:SV),l[j]? =some s->Sw s=true
 | [],_,j,s,h=>by simp at h
 |x::r,h,0,s,hs=>by grind [xR]
 |x::r,h,j+1,s,hs=>by simp[xR]at h hs;exact Fa h.2 j s hs
variable {t:TypeId}{ti:TI}{sx:SV}{off:Nat}
theorem As(ht:jZ P t=some ti){V:Value}(X:Rel F own w sx V){xs:List SV}(hf:rI sx=some xs)(Y:xs.length=ti.size)(W:∀ (j:Nat) (s:SV),xs[j]? =some s->∀ v,Rel F own w s v->v.oneCell'=true)
  {b:Nat} {cs:Array Value} {ty:TypeId} (hb:w.heap[b]? =some (.cells cs ty (0,0))) (hle:off+xs.length<=cs.size):
  ∃ E w',(Instr.storeAt t (.pointer (some ⟨b,off,none⟩)) V).run P w=.ok () w'/\av9 b ty E w w'/\E.size=cs.size/\
   (∀ j,off<=j->j<off+xs.length->∃ u,E[j]? =some u/\∀ s,xs[j - off]? =some s->Rel F own w s u)/\(∀ j,¬ (off<=j/\j<off+xs.length)->E[j]? =cs[j]?):=by
 obtain⟨i,d,z,hi,hd',hz,hq,rfl⟩:=bY ht;have⟨f1,f2⟩:=Hr X hf;have⟨E,w',q1,q2,q3,q4⟩:=kL (P:=P) (b:=b) (o:=off) (ty:=ty) V.cells.toList 0 w cs hb (by simp;omega) (λu hu=>by
  have⟨j,hj⟩:=aqX hu;have hjl:j<V.cells.size:=XN
  have O:=aqf (l:=xs) (i:=j) XM;have:=W j _ O _ (f2 j _ O);simp_all)
 have hsz2:V.cells.size=i.size:=by rw[f1,Y];rfl
 refine⟨E,w',by simp_all [Instr.storeAt,Instr.sureAddr,storeVar,dU],q2,q3,λj h1 h2=>?_,λj h1=>?_⟩;simp_all <;>grind;grind
variable {l5:Own}{k:Tag}{o:Nat}{x:k.T}
theorem atT.put{w':World}(g:at4 F own w l5 w'){l:List k.T}{cs E:Array Value}(h:atT F own w k l o cs){i:Nat}(hi:i<l.length){xs:List SV}(hx:qy k (il (cellsOf k (l.getD i (eT k))) off xs)=some x)
  (hle:off+xs.length<=ae k)
  (hin:∀ j,o+i*ae k+off<=j->j<o+i*ae k+off+xs.length->∃ u,E[j]? =some u/\∀ s,xs[j - (o+i*ae k+off)]? =some s->Rel F own w s u)
  (V:∀ j,¬ (o+i*ae k+off<=j/\j<o+i*ae k+off+xs.length)->E[j]? =cs[j]?):atT F l5 w' k (l.set i x) o E:=by
 intro Y y hy j s hj;rw[arT]at hy;have hjl:j<ae k:=by grind [cb]
 by_cases O:i=Y
 subst O;rw[if_pos rfl,if_pos hi]at hy;simp only[aqd]at hy;subst hy;rw[nZ hx]at hj;obtain⟨s0,X,e2⟩:=xa _ _ _ _ hj;rw[qC _ _ _ (by grind [cb])]at X;have fin:∀ u,Rel F own w s0 u->Rel F l5 w' s u:=λu hu=>by
  rcases e2 with rfl| ⟨q,rfl⟩;exact hu.mono g;exact qD (hu.mono g)
 by_cases W:off<=j/\j<off+xs.length
 rw[if_pos W]at X;obtain⟨u,h1,h2⟩:=hin (o+i*ae k+j) XM XM;grind
 rw[if_neg W]at X;have⟨h1,h2⟩:=h.get hi X;grind
 rw[if_neg O]at hy;have⟨u,h1,h2⟩:=h Y y hy j s hj;refine⟨u,?_,h2.mono g⟩;rw[V];exact h1;rcases Nat.lt_or_gt_of_ne O with hlt|hlt;have:(i+1)*ae k<=Y*ae k:=aqm _ hlt;grind
 have:(Y+1)*ae k<=i*ae k:=aqm _ hlt;grind
variable {n:Nat}
theorem UD{cap i size m E:Nat}(h1:o+cap*size<=E)(h2:n<=cap)(W:i<n)(V:off+m<=size):o+i*size+off+m<=E:=by
 have O:(i+1)*size<=cap*size:=aqm _ XM;grind
theorem atK.put{w':World}(g:at4 F own w l5 w'){l':List k.T}{b:Nat}(O:∀ c,c≠b->w'.heap[c]? =w.heap[c]?):
  ∀ {l:List (List k.T)} {vs:List Value} {bs:List Nat} {i:Nat},atK F own w k l vs bs->bs.Nodup->vs[i]? =some v->(∀ E,atJ F own w k (l.getD i []) v E->b∈E)->(∀ E,atJ F own w k (l.getD i []) v E->atJ F l5 w' k l' v E)->atK F l5 w' k (l.set i l') vs bs
 | [],[],bs,i,_,_,h,_,_=>by simp at h
 |l::ls,u::vs,bs,0,⟨E,b2,h1,h0,h2,h3⟩,hn,h,hb,hr=>by
  simp at h;subst h;refine⟨E,b2,h1,h0,hr E h2,h3.carry g.at7 λc hc=>O c λe=>?_⟩;grind
 |l::ls,u::vs,bs,i+1,⟨E,b2,h1,h0,h2,h3⟩,hn,h,hb,hr=>by
  rw[h1]at hn;rw[art]at hn;have h':vs[i]? =some v:=by simpa using h
  have⟨b3,q1,q2,q3,q4⟩:=h3.get h';have V:=hb b3 XN;exact⟨E,b2,h1,h0,h2.carry g.at7 λc hc=>O c λe=>hn.2.2 _ hc _ (q4 b V) e,
   atK.put g O h3 hn.2.1 h' (λE hb1=>hb E XN) λE hb1=>hr E XN⟩
 | [],_::_,_,_,h,_,_,_,_=>h.elim|_::_,[],_,_,h,_,_,_,_=>h.elim
theorem LQ{l l' xs:List SV}(X:qy k (il l off xs)=some x)(hl:l.length=ae k)(W:off+xs.length<=ae k)(j:Nat)(s:SV)(hj:xs[j]? =some s)(v:Value)(hv:Rel F own w s v):v.oneCell'=true:=by
 have Y:=(aqe.1 hj).1;have h1:(il l off xs)[off+j]? =some s:=by
  simp_all [qC]
 have hc:=nZ X;have E:off+j< (cellsOf k x).length:=by rw[cb];omega
 have⟨s1,h2⟩:∃ s1,(cellsOf k x)[off+j]? =some s1:=⟨_,aqf E⟩;have O:=h2;rw[hc]at O;have⟨s0,e1,e2⟩:=xa _ _ _ _ O;have V:Rel F own w s1 v:=by
  grind [qD]
 exact nY (Np h2 V)
theorem Wm{h:List Ob}(hp:Hp F own w h)(ht:jZ P t=some ti){s:SV}{vx:Value}(hr:Rel F own w s v)(hrx:Rel F own w sx vx){r:OR}
  (E:t6 ti.size h s (rI sx)=r) (V:r≠ .bad):
  ∃ ups,r=.eff True True ups .any/\∃ w',(Instr.storeAt t v vx).run P w=.ok () w'/\Step F own w (bu h ups) own w':=by
 cases hf:rI sx with
 |none=>rw[hf]at E;cases s <;>exact absurd E.symm V
 |some xs=>
 rw[hf]at E;cases hr with
 |ptr h1 h2=>
  rename_i id off b hd;simp[t6]at E;cases hb:Nat.beq (sz xs) ti.size with
  |false=>grind
  |true=>
  rw[hb]at E;cases Y:aq h id with
  |cells l=>
   rw[Y]at E;simp[Sy]at E;cases hc:Nat.ble (off+sz xs) (sz l)&&xR xs with
   |false=>grind
   |true=>
   rw[hc]at E;subst E;simp only[ap9,tB]at hc hb;have hsz:=ap_ hb;have O:=nbl hc.1;have⟨hd',e0,b',cs,ty,e1,e2,e3,e4,e5⟩:=hp.at Y rfl;rw[h1]at e0;cases e0;rw[h2]at e1;cases e1;have⟨cs',w',q1,q2,q3,q4,q5⟩:=As (P:=P) ht hrx hf hsz (λj s W v hv=>Yk (Fa hc.2 j s W) hv) (off:=off) e3 XM;refine⟨_,rfl,w',q1,rS hp h1 (by simp[e2]) q2.size q2.other q2.os q2.tape q2.output _ λg=>⟨b,cs',ty,h2,e2,q2.here,by rw[q3,e4,pa],λj s W=>?_⟩⟩;rw[qC _ _ _ O]at W;by_cases hjr:off<=j/\j<off+xs.length
   rw[if_pos hjr]at W;have⟨u,k1,k2⟩:=q4 j hjr.1 hjr.2;have:=(k2 s W).mono g;simp_all;rw[if_neg hjr]at W;have:=(e5 j s W).mono g;simp_all
  |_=>rw[Y]at E;exact absurd E.symm V
 |rp h1 h2 h3=>
  rename_i szt id off n cap b o i hd;simp[t6]at E;cases hb:Nat.beq (sz xs) ti.size with
  |false=>grind
  |true=>
  rw[hb]at E;cases Y:aq h id with
  |row k l=>
   rw[Y]at E;simp only[Sz]at E;cases hc:Nat.beq szt (ae k)&&Nat.ble (off+sz xs) szt with
   |false=>grind
   |true=>
   rw[hc]at E;simp only[ap9,tB]at hc hb;have hsz:=ap_ hb;have X:=ap_ hc.1;have O:=nbl hc.2;subst X;cases hx:qy k (il (cellsOf k (l.getD i.toNat (eT k))) off xs)with
   |none=>rw[hx]at E;exact absurd E.symm V
   |some x=>
   rw[hx]at E;subst E;have⟨hd',e0,e⟩:=hp.at Y rfl;rw[h1]at e0;cases e0;rcases e with⟨a,e1,_⟩ | ⟨b',o',cap',cs,ty,e1,e2,e3,e4,e5,e6,e7⟩;grind
   rw[h2]at e1;obtain⟨⟨rfl,rfl,_⟩,rfl,rfl⟩:=e1;have⟨cs',w',q1,q2,q3,q4,q5⟩:=As (P:=P) ht hrx hf hsz (λj s W v hv=>LQ (l':=[]) hx (cb _ _) O j s W v hv) e3 (UD e4 e5 h3 O);refine⟨_,rfl,w',q1,rS hp h1 (by simp[e2]) q2.size q2.other q2.os q2.tape q2.output _ λg=>.inr ⟨b,o,cap,cs',ty,XN,e2,q2.here,XM,XN,XN,e7.put g h3 hx O q4 q5⟩⟩
  |_=>rw[Y]at E;exact absurd E.symm V
 |gp h1 h2 h3=>
  rename_i szt id off n cap b o i j hd;simp only[t6]at E;cases hb:Nat.beq (sz xs) ti.size with
  |false=>grind
  |true=>
  rw[hb]at E;cases Y:aq h id with
  |atH k l=>
   rw[Y]at E;simp only[SA]at E;cases hc:Nat.beq szt (ae k)&&Nat.ble (off+sz xs) szt with
   |false=>grind
   |true=>
   rw[hc]at E;simp only[ap9,tB]at hc hb;have hsz:=ap_ hb;have X:=ap_ hc.1;have O:=nbl hc.2;subst X;cases hx:qy k (il (cellsOf k ((l.getD i.toNat []).getD j.toNat (eT k))) off xs)with
   |none=>rw[hx]at E;exact absurd E.symm V
   |some x=>
   rw[hx]at E;subst E;have⟨hd',e0,e⟩:=hp.at Y rfl;rw[h1]at e0;cases e0;rcases e with⟨_,_,e1,_⟩ | ⟨b',o',cap',cs,ty,bs,e1,e2,e3,e4,e5,e6,e7,e8,e9⟩;grind
   have⟨b1,k1,k2,k3,k4⟩:=e9.get h2;have hrow:∀ b1,atJ F own w k (l.getD i.toNat []) (.slice (some ⟨b,o,none⟩) n cap) b1->∃ cs ty,b1=[b]/\n=(l.getD i.toNat []).length/\w.heap[b]? =some (.cells cs ty (0,0))/\o+cap*ae k<=cs.size/\(l.getD i.toNat []).length<=cap/\(l.getD i.toNat []).length<=aD/\atT F own w k (l.getD i.toNat []) o cs:=by
    rintro b1 (⟨a,m1,_⟩ | ⟨b2,o2,cap2,cs2,ty2,m1,m2,m3,m4,m5,m6,m7⟩) <;>grind
   obtain⟨cs2,ty2,m1,rfl,m3,m4,m5,m6,m7⟩:=hrow b1 k3;have⟨cs',w',q1,q2,q3,q4,q5⟩:=As (P:=P) ht hrx hf hsz (λj s W v hv=>LQ (l':=[]) hx (cb _ _) O j s W v hv) m3 (UD m4 m5 h3 O);have hbb:b∈hd.bs:=XN
   have V:b'≠b:=λe=>by
    grind
   refine⟨_,rfl,w',q1,rS hp h1 hbb q2.size q2.other q2.os q2.tape q2.output _ λg=>.inr ⟨b',o',cap',cs,ty,bs,XN,e2,e3,by rw[q2.other b' V];exact e4,XM,XN,XN,e8,?_⟩⟩;rw[e2,aqQ]at e3;refine e9.put g q2.other e3.2 h2 (λb1 hb1=>?_) λb1 hb1=>?_;grind
   obtain⟨cs3,ty3,rfl,_,n3,n4,n5,n6,n7⟩:=hrow b1 hb1;exact .inr ⟨b,o,cap,cs',ty2,by simp,rfl,q2.here,XM,XN,XN,m7.put g h3 hx O q4 q5⟩
  |_=>rw[Y]at E;exact absurd E.symm V
 |_=>simp only[t6]at E;exact absurd E.symm V
theorem xY(E:cG (P.underlying t)≠0){xs:Array Value}(hn:n<xs.size):(part t xs n).run P w=.ok (xs.getD n undef) w:=by
 have:(isAgg t).run P w=.ok false w:=by
  unfold isAgg;cases hd:P.underlying t with
  |none=>grind [cG]|some d=>rw[hd]at E;cases d <;>simp[cG]at E <;>simp[run_underlying hd]
 simp_all [part]
theorem SQ{Y sy:SV}{vx X:Value}(W:Rel F own w Y vx)(hy:Rel F own w sy X){b:Bool}(h:eqV (cG (P.underlying t)) Y sy=some b)(d:Nat):(Op.equalIn (d+1) t vx X).run P w=.ok b w:=by
 unfold eqV at h;split at h
 rename_i k a k' c;have ex:=cV W;have V:=cV hy;subst ex;subst V;cases E:Nat.beq (cG (P.underlying t)) 1&&Nat.beq (kN k) (kN k')with
 |false=>grind
 |true=>
  rw[E]at h;simp[cond_true,aqd]at h;subst h;simp only[ap9]at E;have hk:=SI E.2;subst hk;have hc:=ap_ E.1;cases hd:P.underlying t with
  |none=>grind [cG]
  |some O=>
   rw[hd]at hc;cases O <;>simp[cG]at hc;simp[Op.equalIn,run_underlying hd]
 have ex:=cV W;have V:=cV hy;subst ex;subst V;cases E:Nat.beq (cG (P.underlying t)) 2 with
 |false=>grind
 |true=>
  rw[E]at h;simp[cond_true,aqd]at h;subst h;have hc:=ap_ E;cases hd:P.underlying t with
  |none=>grind [cG]
  |some O=>
   rw[hd]at hc;cases O <;>simp[cG]at hc;simp[Op.equalIn,run_underlying hd]
 have ex:=cV W;have V:=cV hy;subst ex;subst V;cases E:Nat.beq (cG (P.underlying t)) 3 with
 |false=>grind
 |true=>
  rw[E]at h;simp[cond_true,aqd]at h;subst h;have hc:=ap_ E;cases hd:P.underlying t with
  |none=>grind [cG]
  |some O=>
   rw[hd]at hc;cases O <;>simp[cG]at hc;simp[Op.equalIn,run_underlying hd]
 cases h
theorem zy {d:Nat}:∀ (fs:List Field) (n:Nat) (O E:List SV) (xs V:Array Value) (b:Bool),eqFields P n fs=true->eqL (fs.map λf=>cG (P.underlying f.type)) O E=some b->n+O.length<=xs.size->n+E.length<=V.size->
  (∀ (j:Nat) (s:SV),O[j]? =some s->Rel F own w s (xs.getD (n+j) undef))->(∀ (j:Nat) (s:SV),E[j]? =some s->Rel F own w s (V.getD (n+j) undef))->
  (Op.eqFields (d+1) xs V fs).run P w=.ok b w
 | [],n,O,E,xs,V,b,_,h,_,_,_,_=>by
  cases O <;>cases E <;>simp[eqL]at h;simp_all [Op.eqFields]
 |f::fs,n,O,E,xs,V,b,hf,h,h1,h2,h3,W=>by
  simp only[eqFields,ap9]at hf;have⟨⟨⟨q1,q2⟩,q3⟩,q4⟩:=hf;have hn:f.name≠ "_":=XN
  have ho:f.offset=n:=ap_ q2;have hc:cG (P.underlying f.type)≠0:=by simp_all <;>grind
  cases O with
  |nil=>simp[eqL]at h
  |cons x O=>
   cases E with
   |nil=>simp[eqL]at h
   |cons y E=>
    simp[aqZ,eqL]at h;cases hv:eqV (cG (P.underlying f.type)) x y with
    |none=>grind [Cj]
    |some b1=>
     cases X:eqL (fs.map λf=>cG (P.underlying f.type)) O E with
     |none=>grind [Cj]
     |some b2=>
      rw[hv,X]at h;simp[Cj,aqd]at h;subst h;simp[aqc]at h1 h2;have e1:=xY (P:=P) (w:=w) hc (xs:=xs) (n:=n) XM;have e2:=xY (P:=P) (w:=w) hc (xs:=V) (n:=n) XM;have Y:=SQ (P:=P) (h3 0 x rfl) (W 0 y rfl) hv d;simp only[arv]at Y;simp only[Op.eqFields,if_pos hn,ho,aqF,e1,e2,aqK,Y];cases b1 with
      |false=>simp
      |true=>
       have ih:=zy (d:=d) fs (n+1) O E xs V b2 q4 X XM XM (λj s hj=>by have:=h3 (j+1) s XN;grind) (λj s hj=>by have:=W (j+1) s XN;grind);grind
variable {Y V:List SV}{E:Array Value}
theorem P2{fs:Array Field}(hd:P.underlying t=some (.struct fs)){xs:Array Value}(hx:atP F own w Y xs)(hy:atP F own w V E){b:Bool}
  (hc:pw P t (.struct fs)≠[]) (h:eqL (pw P t (.struct fs)) Y V=some b):(Op.equal t (.agg xs) (.agg E)).run P w=.ok b w/\P.eqGuardType P.depth t=false:=by
 simp[pw]at hc h;cases W:!P.stoodInHeld t&& !P.eqGuardType P.depth t&&eqFields P 0 fs.toList with
 |false=>grind
 |true=>
  rw[W]at h;simp[ap9,aqA]at W;have⟨⟨q1,q2⟩,q3⟩:=W;refine⟨?_,q2⟩;have X:P.fieldsOf t=fs:=by simp[Program.fieldsOf,hd]
  unfold Op.equal Op.maxDepth;rw[run_equalIn_struct w 9999 t xs E XN q1,X];exact zy (P:=P) (d:=9998) fs.toList 0 Y V xs E b q3 h (by rw[hx.1];omega) (by rw[hy.1];omega) (λj s O=>by simpa using hx.2 j s O) (λj s O=>by simpa using hy.2 j s O)
theorem UE:∀ {E bs:List Nat} {l m:List SV} {b:Bool},eqL (E++bs) l m=some b->∃ V O,eqL E (l.take E.length) (m.take E.length)=some V/\eqL bs (l.drop E.length) (m.drop E.length)=some O/\b=(V&&O)/\E.length<=l.length/\E.length<=m.length
 | [],bs,l,m,b,h=>⟨true,b,by simp[eqL],by simpa using h,by simp,by simp,by simp⟩
 |c::E,bs,[],m,b,h=>by simp[eqL]at h
 |c::E,bs,x::l,[],b,h=>by simp[eqL]at h
 |c::E,bs,x::l,y::m,b,h=>by
  simp[aqB,eqL]at h;cases X:eqV c x y with
  |none=>grind [Cj]
  |some b0=>
   cases W:eqL (E++bs) l m with
   |none=>grind [Cj]
   |some Y=>
    have⟨V,O,e1,e2,e3,e4,e5⟩:=UE W;grind [eqL,Cj]
theorem Yl{ly:List SV}{xs ys:Array Value}{b:Bool}(h:eqL (tw P t) Y ly=some b)(hp:0< (tw P t).length)(O:Y.length=(tw P t).length)(V:ly.length=(tw P t).length)(h1:n+Y.length<=xs.size)(h2:n+ly.length<=ys.size)
  (h3:∀ (j:Nat) (s:SV),Y[j]? =some s->Rel F own w s (xs.getD (n+j) undef)) (h4:∀ (j:Nat) (s:SV),ly[j]? =some s->Rel F own w s (ys.getD (n+j) undef)) (d:Nat):
  ∃ vx vy,(part t xs n).run P w=.ok vx w/\(part t ys n).run P w=.ok vy w/\(Op.equalIn (d+2) t vx vy).run P w=.ok b w:=by
 by_cases hst:∃ gs,P.underlying t=some (.struct gs)
 have⟨gs,hd⟩:=hst;have e:tw P t=bif !P.stoodInHeld t&&eqFields P 0 gs.toList&&Nat.beq (pY P t) gs.size&&(P.info? t).isSome then gs.toList.map λf=>cG (P.underlying f.type)else []:=by grind [tw]
 cases hb:!P.stoodInHeld t&&eqFields P 0 gs.toList&&Nat.beq (pY P t) gs.size&&(P.info? t).isSome with
 |false=>grind
 |true=>
  rw[hb]at e;simp only[ap9,aqA]at hb;have⟨⟨⟨q1,q2⟩,q3⟩,q4⟩:=hb;have hsz:=ap_ q3;have⟨i,hi⟩:=ar3.1 q4;have hszi:i.size=gs.size:=by grind [pY]
  have hlen:(tw P t).length=gs.size:=by rw[e];simp
  have E:∀ W:Array Value,(part t W n).run P w=.ok (.agg (W.extract n (n+i.size))) w:=λW=>by
   simp_all [part,Aq,lw,dU]
  have X:∀ (W:Array Value) (l:List SV),l.length=gs.size->n+l.length<=W.size->(∀ (j:Nat) (s:SV),l[j]? =some s->Rel F own w s (W.getD (n+j) undef))->∀ (j:Nat) (s:SV),l[j]? =some s->Rel F own w s ((W.extract n (n+i.size)).getD (0+j) undef):=λW l hl hz hr j s hj=>by
   grind [wn]
  refine⟨_,_,E xs,E ys,?_⟩;have hfo:P.fieldsOf t=gs:=by simp[Program.fieldsOf,hd]
  rw[run_equalIn_struct w (d+1) t _ _ XN q1,hfo];rw[e]at h;rw[hlen]at O V;exact zy (P:=P) (d:=d) gs.toList 0 Y ly _ _ b q2 h (by simp;omega) (by simp;omega) (X xs Y O h1 h3) (X ys ly V h2 h4)
 have e:tw P t=bif Nat.blt 0 (cG (P.underlying t))then [cG (P.underlying t)]else []:=by
  grind [tw]
 cases hb:Nat.blt 0 (cG (P.underlying t))with
 |false=>grind
 |true=>
  rw[hb]at e;have hc:cG (P.underlying t)≠0:=by simp_all <;>grind
  rw[e]at h O V;match Y,ly,O,V with
  | [x],[y],_,_=>
   simp[eqL]at h;cases hv:eqV (cG (P.underlying t)) x y with
   |none=>grind [Cj]
   |some b1=>
    simp[Cj]at h;have e3:=SQ (P:=P) (h3 0 x rfl) (h4 0 y rfl) hv (d+1);grind [xY]
theorem Cw {d:Nat}:∀ (fs:List Field) (n:Nat) (O E:List SV) (xs V:Array Value) (b:Bool),wY P n fs=true->eqL (fs.flatMap λf=>tw P f.type) O E=some b->n+O.length<=xs.size->n+E.length<=V.size->
  (∀ (j:Nat) (s:SV),O[j]? =some s->Rel F own w s (xs.getD (n+j) undef))->(∀ (j:Nat) (s:SV),E[j]? =some s->Rel F own w s (V.getD (n+j) undef))->
  (Op.eqFields (d+2) xs V fs).run P w=.ok b w
 | [],n,O,E,xs,V,b,_,h,_,_,_,_=>by
  cases O <;>cases E <;>simp[eqL]at h;simp_all [Op.eqFields]
 |f::fs,n,O,E,xs,V,b,X,h,h1,h2,h3,Y=>by
  simp only[wY,ap9]at X;have⟨⟨⟨q1,q2⟩,q3⟩,q4⟩:=X;have hn:f.name≠ "_":=XN
  have ho:f.offset=n:=ap_ q2;have hc:0< (tw P f.type).length:=nbl q3;simp[aqx]at h;have⟨b1,b2,e1,e2,e3,e4,e5⟩:=UE h;subst e3;have⟨vx,vy,p1,p2,p3⟩:=Yl (P:=P) (n:=n) e1 hc (by simp;omega) (by simp;omega) (by simp;omega) (by simp;omega) (λj s W=>h3 j s XN) (λj s W=>Y j s XN) d;simp[Op.eqFields,if_pos hn,ho,aqF,p1,p2,aqK,p3];cases b1 with
  |false=>simp
  |true=>
   have ih:=Cw (d:=d) fs (n+(tw P f.type).length) (O.drop (tw P f.type).length) (E.drop (tw P f.type).length) xs V b2 q4 e2 (by simp;omega) (by simp;omega) (λj s W=>XN) (λj s W=>XN);grind
theorem Wn{d:TypeDesc}(hd:P.underlying t=some d){xs:Array Value}(hx:atP F own w Y xs)(hy:atP F own w V E){b:Bool}
  (hc:M7 P t d≠[]) (h:eqL (M7 P t d) Y V=some b):(Op.equal t (.agg xs) (.agg E)).run P w=.ok b w/\P.eqGuardType P.depth t=false:=by
 cases d with
 |struct fs=>
  simp[M7]at hc h;cases W:!P.stoodInHeld t&& !P.eqGuardType P.depth t&&wY P 0 fs.toList with
  |false=>grind
  |true=>
   rw[W]at h;simp[ap9,aqA]at W;have⟨⟨q1,q2⟩,q3⟩:=W;refine⟨?_,q2⟩;have X:P.fieldsOf t=fs:=by simp[Program.fieldsOf,hd]
   unfold Op.equal Op.maxDepth;rw[run_equalIn_struct w 9999 t xs E XN q1,X];exact Cw (P:=P) (d:=9997) fs.toList 0 Y V xs E b q3 h (by rw[hx.1];omega) (by rw[hy.1];omega) (λj s O=>by simpa using hx.2 j s O) (λj s O=>by simpa using hy.2 j s O)
 |_=>exact absurd rfl hc
end
section
variable {P:Program}{F:Nat->Prop}{own:Own}{w:World}
def Own.move (b:Own)(K:List Nat)(c:Nat)(a:Hd):Own:=λj=>if j=c then some a else if j∈K then(b j).map (λa=>{ a with bs:=[]})else b j
theorem lj (nx:Nat)(E:Ob):∀ (K:List Nat) (h:List Ob) (j:Nat),nx ∉ K->(∀ id∈K,id<h.length)->
  aq (bu h (K.map (λid=>(id,Ob.dead))++[(nx,E)])) j=(if j=nx then E else if j∈K then .dead else aq h j)/\h.length<=(bu h (K.map (λid=>(id,Ob.dead))++[(nx,E)])).length/\nx< (bu h (K.map (λid=>(id,Ob.dead))++[(nx,E)])).length
 | [],h,j,_,_=>by
  simp[aq4,aqs,bu];refine⟨by simp_all [dM,eq_comm],?_,?_⟩ <;>rw[cJ] <;>split <;>omega
 |id::K,h,j,hn,V=>by
  simp[aqg,not_or]at hn;have hid:=V id (by simp);have O:(cO h id Ob.dead).length=h.length:=by rw[cJ,if_pos hid]
  have⟨q1,q2,q3⟩:=lj nx E K (cO h id .dead) j hn.2 (λi hi=>XN);simp[aqZ,aqB,bu];rw[q1,dM];grind
variable {h:List Ob}
theorem ml(hp:Hp F own w h){nx:Nat}(hn:auv own h nx){w':World}(K:List Nat)(hK:∀ id∈K,∃ hd,own id=some hd)(hd':Hd)(ob:Ob)
  (hbs:∀ b∈hd'.bs,(∃ id∈K,∃ hd,own id=some hd/\b∈hd.bs)\/(w.heap.size<=b/\b<w'.heap.size))
  (hold:∀ b,b<w.heap.size->(¬ ∃ id∈K,∃ hd,own id=some hd/\b∈hd.bs)->w'.heap[b]? =w.heap[b]?) (hsz:w.heap.size<=w'.heap.size) (q2:w'.os=w.os) (q3:w'.tape=w.tape) (q4:w'.output=w.output)
  (hob:∀ l5,at4 F own w l5 w'->atY F l5 w' hd' ob) (hnd:dT ob=false:=by rfl):Step F own w (bu h (K.map (λid=>(id,Ob.dead))++[(nx,ob)])) (own.move K nx hd') w':=by
 have hnK:nx ∉ K:=λE=>by have⟨hd,e⟩:=hK nx E;rw[hn.none]at e;cases e
 have V:∀ id∈K,id<h.length:=λid E=>by have⟨hd,e⟩:=hK id E;exact hp.dom _ _ e
 have fr:Fr { w:=w,own:=own} (own.move K nx hd') w':=by
  refine Fr.auk (λid hd h1=>?_) (λid hd b h1 h2=>?_) (λb hb hnb=>hold b hb λ⟨id,_,hd,e1,e2⟩ =>hnb ⟨id,hd,e1,e2⟩) hsz q2 q3 q4;have X:id≠nx:=λe=>by rw[e,hn.none]at h1;cases h1
  simp[Own.move,if_neg X];by_cases E:id∈K
  exact⟨{ hd with bs:=[]},by simp[E,h1],rfl,rfl,rfl⟩;exact⟨hd,by simp[E,h1],.refl _⟩;grind [Own.move]
 refine⟨hp.upd fr.aub (λid=>id=nx\/id∈K) (lj nx ob K h 0 hnK V).2.1 (λid hid=>?_) (λid hd hid h1=>?_) (λid hid hd=>?_),fr,λid h1 h2=>?_⟩
 rotate_left 3
 grind [lj,Own.move]
 simp[not_or]at hid;refine⟨by grind [Own.move],by simp_all [lj],λhd b h1 h2=>hold b (hp.lt id hd b h1 h2) ?_⟩;rintro⟨W,E,O,e1,e2⟩;exact hid.2 (hp.inj id W hd O b h1 e1 h2 e2▸E);simp[Own.move]at h1;by_cases e:id=nx
 subst e;rw[if_pos rfl]at h1;cases h1;refine⟨(lj _ ob K h 0 hnK V).2.2,λb hb=>?_⟩;rcases hbs b hb with⟨W,E,O,e1,e2⟩ |h3;refine⟨aqi (hp.lt W O b e1 e2) hsz,hp.apart W O b e1 e2,λj hj X h4 h5=>?_⟩;simp[Own.move,if_neg X]at h4;by_cases Y:j∈K
 grind
 rw[if_neg Y]at h4;exact Y (hp.inj j W hj O b h4 e1 h5 e2▸E);refine⟨h3.2,λhf=>by have:=hp.atu b hf;omega,λj hj X h4 h5=>?_⟩;simp[Own.move,if_neg X]at h4;by_cases Y:j∈K
 grind
 rw[if_neg Y]at h4;have:=hp.lt j hj b h4 h5;omega;rw[if_neg e]at h1;have E:id∈K:=hid.resolve_left e;rw[if_pos E]at h1;cases ho:own id with
 |none=>grind
 |some O=>
  rw[ho]at h1;simp at h1;subst h1;exact⟨aqi (V id E) (lj nx ob K h 0 hnK V).2.1,λb hb=>by simp at hb⟩
 rw[(lj nx ob K h id hnK V).1]at hd |-;by_cases e:id=nx
 subst e;rw[if_pos rfl]at hd |-;exact⟨hd',by simp[Own.move],hob _ fr.aub⟩;rw[if_neg e]at hd;have E:id∈K:=hid.resolve_left e;rw[if_pos E]at hd;cases hd
structure Src (P:Program)(F:Nat->Prop)(own:Own)(w:World)(k:Tag)(m:List k.T)(v:Value)(news:List Value):Prop where
 len:∃ a cap,v=.slice a m.length cap
 cells:∀ (w1:World),w1.heap=w.heap->(Builtin.firstCells (ae k) m.length v).run P w1=.ok news.toArray w1
 size:news.length=m.length*ae k
 rel:∀ (i:Nat) (x:k.T),m[i]? =some x->∀ (j:Nat) (s:SV),(cellsOf k x)[j]? =some s->∃ u,news[i*ae k+j]? =some u/\Rel F own w s u
variable {n:Nat}
theorem P3{size p:Nat}(h:p<n*size):p / size<n/\p % size<size/\p / size*size+p % size=p:=by
 have E:0<size:=by
  grind
 refine⟨(Nat.div_lt_iff_lt_mul E).2 h,ar8 _ E,?_⟩;grind [Nat.div_add_mod]
variable {k:Tag}{m:List k.T}{v:Value}
theorem Src.one{news:List Value}(h:Src P F own w k m v news):∀ u∈news,u.oneCell'=true:=by
 intro u E;have⟨p,hp⟩:=aqX E;have hlt:=(aqe.1 hp).1;rw[h.size]at hlt;have⟨h1,h2,h3⟩:=P3 hlt;have hc:p % ae k< (cellsOf k (m.getD (p / ae k) (eT k))).length:=by grind [cb]
 have⟨u',e1,e2⟩:=h.rel _ _ (vh h1) _ _ (aqf hc);rw[h3,hp]at e1;simp[aqd]at e1;subst e1;exact nY (Np (aqf hc) e2)
theorem SR{l:List k.T}{b o cap:Nat}(hc:∀ (i:Nat) (x:k.T),l[i]? =some x->∀ (j:Nat) (s:SV),(cellsOf k x)[j]? =some s->∃ u,w.cell? ⟨b,o+i*ae k+j,none⟩=some u/\Rel F own w s u):
  ∃ news,Src P F own w k l (.slice (some ⟨b,o,none⟩) l.length cap) news:=by
 have key:∀ p,p<l.length*ae k->w.cell? ⟨b,o+p,none⟩=some ((w.cell? ⟨b,o+p,none⟩).getD undef):=by
  intro p X;have⟨h1,h2,h3⟩:=P3 X;have V:p % ae k< (cellsOf k (l.getD (p / ae k) (eT k))).length:=by grind [cb]
  have⟨u,e1,_⟩:=hc _ _ (vh h1) _ _ (aqf V);grind
 refine⟨(List.range (l.length*ae k)).map λp=>(w.cell? ⟨b,o+p,none⟩).getD undef,⟨_,_,rfl⟩,λw1 W=>?_,by simp,λi x hi j s Y=>?_⟩;refine run_firstCells_some w1 _ _ _ _ _ _ (by simp) λj v Y=>?_;grind [pb,w7]
 have E:=(aqe.1 hi).1;have O:j<ae k:=by grind [cb]
 have hlt:i*ae k+j<l.length*ae k:=by
  have:(i+1)*ae k<=l.length*ae k:=aqm _ E;grind
 rw[are,List.getElem?_range hlt];grind
theorem Cy{a:Option Addr}{cap:Nat}:Src P F own w k [] (.slice a 0 cap) []:=
 ⟨⟨_,_,rfl⟩,λw1 _=>by cases a <;>simp[Builtin.firstCells,loadCells,loadCellsFrom],by simp,λi x h=>by simp at h⟩
theorem vj{k':Tag}{l:List k'.T}(h:Cm k k' l=some m):∃ e:k'=k,m=e▸l:=by
 grind [Cm]
theorem Ns{l:List k.T}{bs:List Nat}(h:atJ F own w k l v bs):∃ news,Src P F own w k l v news:=by
 rcases h with⟨a,rfl,rfl,_⟩ | ⟨b,o,cap,cs,ty,rfl,h2,Y,W,X,V,E⟩;exact⟨[],Cy⟩;exact SR λi x hi j s O=>by
  have⟨u,e1,e2⟩:=E i x hi j s O;grind [eU]
theorem Bd {α:Type}{l:List α}{a b i:Nat}{x:α}(h:((l.take b).drop a)[i]? =some x):l[a+i]? =some x/\a+i<b:=by
 grind
variable {l:List k.T}
theorem Ym{x:Value}{bs:List Nat}(h:atJ F own w k l x bs){sz cap:Nat}{lo hi:Int}{a:Option Addr}(h2:afy x sz lo hi a)(hz:sz=ae k):
  ∃ news,Src P F own w k ((l.take hi.toNat).drop lo.toNat) (.slice a (hi.toNat - lo.toNat) cap) news:=by
 have nil:hi.toNat<=lo.toNat->∃ news,Src P F own w k ((l.take hi.toNat).drop lo.toNat) (.slice a (hi.toNat - lo.toNat) cap) news:=λW=>by
  have e:(l.take hi.toNat).drop lo.toNat=[]:=asP (by simp;omega);rw[e,show hi.toNat - lo.toNat=0 by omega];exact⟨[],Cy⟩
 rcases h2 with h2| ⟨b,o,n,c,rfl,h3,rfl⟩;exact nil h2;rcases h with⟨a,e,rfl,_⟩ | ⟨b',o',V,cs,ty,e,q2,q3,q4,q5,q6,Y⟩;grind
 cases e;have E:((l.take hi.toNat).drop lo.toNat).length=hi.toNat - lo.toNat:=by simp;omega
 rw[<-E];exact SR λi x O j s X=>by
  have⟨e1,_⟩:=Bd O;have⟨u,g1,g2⟩:=Y _ x e1 j s X;grind [eU]
theorem Nt(X:Hp F own w h){s:SV}(hr:Rel F own w s v)(E:w6 k h s=some m):∃ news,Src P F own w k m v news:=by
 cases hr with
 |rs c h0 h0' h1 h2=>
  obtain⟨e,rfl⟩:=vj E;subst e;exact SR λi x hi j s Y=>⟨_,(h1 i x hi j s Y).2,h2 i x hi j s Y⟩
 |rs0=>
  obtain⟨e,rfl⟩:=vj E;subst e;exact⟨[],Cy⟩
 |e0=>simp[w6]at E;subst E;exact⟨[],Cy⟩
 |v x=>
  unfold w6 at E;split at E
  grind
  rename_i W;cases W;simp at E;subst E;exact⟨[],Cy⟩;grind
  grind
  grind
  cases E
 |os h1 h2=>
  rename_i id hd;simp[w6]at E;cases O:aq h id with
  |row k' l=>
   rw[O]at E;obtain⟨e,rfl⟩:=vj E;subst e;have⟨hd',e0,e1⟩:=X.at O rfl;rw[h1]at e0;cases e0;exact Ns e1
  |_=>rw[O]at E;cases E
 |vw h1 h2 V=>
  rename_i sz id cap lo hi hd a;simp[w6]at E;cases O:aq h id with
  |row k' l=>
   rw[O]at E;simp[afo]at E;cases hb:Nat.beq sz (ae k')with
   |false=>grind
   |true=>
    rw[hb]at E;obtain⟨e,rfl⟩:=vj E;subst e;have⟨hd',e0,e1⟩:=X.at O rfl;rw[h1]at e0;cases e0;exact Ym e1 h2 (ap_ hb)
  |_=>rw[O]at E;cases E
 |_=>simp[w6]at E
theorem t8 (z:Array Value)(n:Nat):(Builtin.zeroCells z n).size=n*z.size:=by simp[Builtin.zeroCells]
variable {t t2 ty e e2:TypeId}{z:Value}{a0:Option Addr}{m:Nat}
theorem wo{i:TypeInfo}(Y:P.underlying t=some (.slice e))(W:P.underlying t2=some (.slice e2))(hi:P.info? e=some i)(hz:i.zero=some z){cap:Nat}{olds:List Value}
  (O:∀ w1:World,w1.heap=w.heap->(Builtin.firstCells i.size n (.slice a0 n cap)).run P w1=.ok olds.toArray w1)   {news:List Value} (hv:∃ a c,v=.slice a m c) (E:∀ w1:World,w1.heap=w.heap->(Builtin.firstCells i.size m v).run P w1=.ok news.toArray w1)
  (hg:cap<n+m) (h63:n+m<=9223372036854775807) (V:(n+m)*i.bytes<=dh):
  (Builtin.append_ #[t,t2] ty #[.slice a0 n cap,v]).run P w=.ok (.slice (some ⟨w.heap.size,0,none⟩) (n+m) (grownCap w (n+m) cap e)) (w.drew.alloc (.cells (olds.toArray++news.toArray++Builtin.zeroCells z.cells (grownCap w (n+m) cap e - (n+m))) e)):=by
 obtain⟨a,c,rfl⟩:=hv;have X:¬ (281474976710656<Builtin.nextslicecap (n+m) cap*i.bytes):=by have:=growslice_fits hg V;omega
 have h1:=O w.drew rfl;have h2:=E w.drew rfl;simp[Builtin.append_,run_underlying Y,run_underlying W,sizeOf,typeInfo,zeroValue,hi,hz,Builtin.lenOf,Question.forced,h1,h2,newRow,grownCap];grind
theorem zz{X:TypeId}{i:TypeInfo}(W:P.underlying t=some (.slice e))(O:P.underlying t2=some (.slice X))(hi:P.info? e=some i){b o cap:Nat}{news:List Value}(Y:∃ a c,v=.slice a m c)(E:(Builtin.firstCells i.size m v).run P w=.ok news.toArray w)
  (hg:n+m<=cap) {w':World} (V:(storeCells ⟨b,o+n*i.size,none⟩ news 0).run P w=.ok () w'):
  (Builtin.append_ #[t,t2] ty #[.slice (some ⟨b,o,none⟩) n cap,v]).run P w=.ok (.slice (some ⟨b,o,none⟩) (n+m) cap) w':=by
 obtain⟨a,c,rfl⟩:=Y;simp[Builtin.append_,run_underlying W,run_underlying O,sizeOf,typeInfo,hi,Builtin.lenOf,hg,E,pb,V]
theorem Fb{W:TypeId}{i:TypeInfo}(V:P.underlying t=some (.slice e))(O:P.underlying t2=some (.slice W))(hi:P.info? e=some i){cap:Nat}(X:∃ a c,v=.slice a 0 c)(E:(Builtin.firstCells i.size 0 v).run P w=.ok #[] w):
  (Builtin.append_ #[t,t2] ty #[.slice a0 0 cap,v]).run P w=.ok (.slice a0 0 cap) w:=by
 obtain⟨a,c,rfl⟩:=X;cases a0 <;>simp[Builtin.append_,run_underlying V,run_underlying O,sizeOf,typeInfo,hi,Builtin.lenOf,E,storeCells]
def uq (w:World)(E O:Nat)(e:TypeId):E<=grownCap w E O e:=grownCap_ge w E O e
def aci (P:Program)(F:Nat->Prop)(b:Own)(w:World)(k:Tag)(l m:List k.T)(v:Value)(c:List Nat):Prop:=c=[]/\m≠[]/\(∃ a,v=.slice a l.length l.length)/\∃ olds,Src P F b w k l v olds
theorem Wo(hp:Hp F own w h){nx:Nat}(hn:auv own h nx){i:TypeInfo}(ht:P.underlying t=some (.slice e))(ht2:P.underlying t2=some (.slice e2))(hi:P.info? e=some i)(hz:i.zero=some z)(hzs:z.cells.size=i.size)(hk:i.size=ae k)(hby:1<=i.bytes)
  {m:List k.T} {u:Value} {bs:List Nat} (hrow:atJ F own w k l v bs\/aci P F own w k l m v bs) {K:List Nat} (hK:∀ id∈K,∃ hd,own id=some hd) (hKb:∀ b∈bs,∃ id∈K,∃ hd,own id=some hd/\b∈hd.bs) (hKo:∀ id∈K,∀ hd,own id=some hd->∀ b∈hd.bs,b∈bs)
  {news:List Value} (Y:Src P F own w k m u news) (hfit:(l++m).length*i.bytes<=dh):
  (l++m).length<=aD/\∃ v' hd' w',(Builtin.append_ #[t,t2] ty #[v,u]).run P w=.ok v' w'/\hd'.v=v'/\rR v'=true/\Step F own w (bu h (K.map (λid=>(id,Ob.dead))++[(nx,.row k (l++m))])) (own.move K nx hd') w':=by
 have hlen:(l++m).length<=aD:=by
  have:(l++m).length<=(l++m).length*i.bytes:=arl _ hby;grind [dh,aD]
 refine⟨hlen,?_⟩;have h63:(l++m).length<=9223372036854775807:=by grind [aD]
 have O:=Y.len;rw[aqk]at hlen h63 hfit;have X:∀ (a0:Option Addr) (cap:Nat) (olds:List Value),v=.slice a0 l.length cap->cap<l.length+m.length->(∀ w1:World,w1.heap=w.heap->(Builtin.firstCells i.size l.length v).run P w1=.ok olds.toArray w1)->olds.length=l.length*ae k->
   (∀ (i:Nat) (x:k.T),l[i]? =some x->∀ (j:Nat) (s:SV),(cellsOf k x)[j]? =some s->∃ u,olds[i*ae k+j]? =some u/\Rel F own w s u)->
   ∃ v' hd' w',(Builtin.append_ #[t,t2] ty #[v,u]).run P w=.ok v' w'/\hd'.v=v'/\rR v'=true/\Step F own w (bu h (K.map (λid=>(id,Ob.dead))++[(nx,.row k (l++m))])) (own.move K nx hd') w':=by
  intro a0 cap olds hv hcap W hol aun;rw[hv]at W;have E:=wo (P:=P) (ty:=ty) ht ht2 hi hz W O (by rw[hk];exact Y.cells) hcap h63 hfit;rw[<-hv]at E;have hge:=uq w (l.length+m.length) cap e;let cs:=olds.toArray++news.toArray++Builtin.zeroCells z.cells (grownCap w (l.length+m.length) cap e - (l.length+m.length))
  have hcs:cs.size=grownCap w (l.length+m.length) cap e*ae k:=by
   simp[cs,Array.size_append,List.size_toArray,t8,hzs,hk,hol,Y.size,<-asB];grind
  refine⟨_,⟨none,_,[],[w.heap.size]⟩,_,E,rfl,rfl,ml hp hn K hK _ _ (λb hb=>?_) (λb hb _=>?_) ?_ rfl rfl rfl λl5 g=>?_⟩;simp_all;exact tx w.drew _ b hb;simp_all;refine .inr ⟨w.heap.size,0,grownCap w (l.length+m.length) cap e,cs,e,by simp,rfl,lW w.drew _,XM,XN,XN,λq x hq j s hj=>?_⟩;rw[aq7]at hq;split at hq
  have⟨u',e1,e2⟩:=aun q x hq j s hj;refine⟨u',?_,e2.mono g⟩;grind
  have⟨u',e1,e2⟩:=Y.rel (q - l.length) x hq j s hj;refine⟨u',?_,e2.mono g⟩;have hb:=(aqe.1 e1).1;have hqq:q*ae k+j=olds.length+((q - l.length)*ae k+j):=by
   have:q=l.length+(q - l.length):=XM
   grind
  simp only[cs];simp_all [aqv]
 rcases hrow with(⟨a,rfl,rfl,rfl⟩ | ⟨b,o,cap,cs,tyb,rfl,rfl,h3,h4,h5,h6,h7⟩) | ⟨rfl,hm,⟨a,hv⟩,olds,ho⟩
 rotate_left 2
 have:0<m.length:=aqS.2 hm;exact X a l.length olds hv XM (by rw[hk];exact ho.cells) ho.size ho.rel;by_cases hm:m=[]
 subst hm;have hnw:news=[]:=aqn (by simpa using Y.size);subst hnw;have E:=Fb (P:=P) (ty:=ty) ht ht2 hi (a0:=a) (cap:=0) O (by have:=Y.cells w rfl;rw[hk];exact this);exact⟨_,⟨none,_,[],[]⟩,w,E,rfl,rfl,ml hp hn K hK _ _ (λb hb=>by simp at hb) (λ_ _ _=>rfl) (aqb _) rfl rfl rfl λl5 g=>.inl ⟨a,rfl,rfl,rfl⟩⟩;have:0<m.length:=aqS.2 hm;exact X a 0 [] rfl XM (λw1 _=>by cases a <;>simp[Builtin.firstCells,loadCells,loadCellsFrom]) (by simp) (λi x hx=>by simp at hx);by_cases V:l.length+m.length<=cap
 have hfits:o+l.length*ae k+news.length<=cs.size:=by
  rw[Y.size];have:(l.length+m.length)*ae k<=cap*ae k:=aqm _ V;grind
 obtain⟨cs',w',q1,q2,q3,q4⟩:=kL (P:=P) (b:=b) (o:=o+l.length*ae k) (ty:=tyb) news 0 w cs h3 XM Y.one;have E:=zz (P:=P) (ty:=ty) ht ht2 hi (b:=b) (o:=o) (n:=l.length) (cap:=cap) O (by have:=Y.cells w rfl;rw[hk];exact this) V (w':=w') XN;refine⟨_,⟨none,_,[],[b]⟩,w',E,rfl,rfl,ml hp hn K hK _ _ (λb' hb'=>XN) (λb' hb' hn'=>q2.other b' λe=>hn' (by simp_all)) (by rw[q2.size];omega) q2.os q2.tape q2.output λl5 g=>?_⟩;refine .inr ⟨b,o,cap,cs',tyb,by simp,rfl,q2.here,XM,XN,XN,λq x hq j s hj=>?_⟩;have hjl:j<ae k:=by grind [cb]
 rw[aq7]at hq;split at hq
 rename_i hlt;have⟨u',e1,e2⟩:=h7 q x hq j s hj;refine⟨u',?_,e2.mono g⟩;have:(q+1)*ae k<=l.length*ae k:=aqm _ hlt;grind
 have⟨u',e1,e2⟩:=Y.rel (q - l.length) x hq j s hj;refine⟨u',?_,e2.mono g⟩;have hb:=(aqe.1 e1).1;have hqq:o+q*ae k+j=o+l.length*ae k+0+((q - l.length)*ae k+j):=by
  have:q=l.length+(q - l.length):=XM
  grind
 simp_all;have⟨olds,ho⟩:=Ns (P:=P) (F:=F) (own:=own) (w:=w) (k:=k) (l:=l) (v:=.slice (some ⟨b,o,none⟩) l.length cap) (bs:=[b]) (.inr ⟨b,o,cap,cs,tyb,rfl,rfl,h3,h4,h5,h6,h7⟩);exact X (some ⟨b,o,none⟩) cap olds rfl XM (by rw[hk];exact ho.cells) ho.size ho.rel
end
section
variable {P:Program}{F:Nat->Prop}{own:Own}{w:World}
variable {v:Value}
theorem i7{id:Nat}(h:Rel F own w (.os id) v):∃ hd,own id=some hd/\v=hd.v/\rR hd.v=true:=by
 cases h with|os h1 h2=>grind
variable {k:Tag}
theorem atJ.blocks{l:List k.T}{bs:List Nat}(h:atJ F own w k l v bs):bs=[]\/∃ b,bs=[b]:=by
 rcases h with⟨_,_,_,e⟩ | ⟨b,_,_,_,_,_,e,_⟩ <;>grind
variable {m:List k.T}
theorem atK.app{u:Value}{E:List Nat}(Y:rR u=true)(X:atJ F own w k m u E):∀ {l:List (List k.T)} {vs:List Value} {bs:List Nat},atK F own w k l vs bs->atK F own w k (l++[m]) (vs++[u]) (bs++E)
 | [],[],bs,h=>by grind [atK]
 |l::ls,v::vs,bs,⟨c1,V,h1,O,h2,W⟩ =>⟨c1,V++E,XN,O,h2,atK.app Y X W⟩
 | [],_::_,_,h=>h.elim|_::_,[],_,h=>h.elim
variable {h:List Ob}{t t2 ty e e2:TypeId}{z:Value}
theorem Hv(hp:Hp F own w h){nx:Nat}(hn:auv own h nx){i:TypeInfo}(ht:P.underlying t=some (.slice e))(ht2:P.underlying t2=some (.slice e2))(hi:P.info? e=some i)(hz:i.zero=some z)(hsz:i.size=1)(hzs:z.cells.size=1)(hby:1<=i.bytes)
   {l:List (List k.T)}  {hd E:Hd} {id2:Nat} (W:own id2=some E) (ho2:aq h id2=.row k m) (hone:rR E.v=true) {K:List Nat}
  (hob:atY F own w hd (.atH k l)) (hd0:(hd.bs=[]/\K=[id2])\/∃ id,id≠id2/\own id=some hd/\K=[id,id2]) {u:Value} (hu:Rel F own w (.ls 1 [.os id2]) u) (hfit:(l++[m]).length*i.bytes<=dh):
  (l++[m]).length<=aD/\∃ v' hd' w',(Builtin.append_ #[t,t2] ty #[hd.v,u]).run P w=.ok v' w'/\hd'.v=v'/\rR v'=true/\Step F own w (bu h (K.map (λid=>(id,Ob.dead))++[(nx,.atH k (l++[m]))])) (own.move K nx hd') w':=by
 have hlen:(l++[m]).length<=aD:=by
  have:(l++[m]).length<=(l++[m]).length*i.bytes:=arl _ hby;grind [dh,aD]
 refine⟨hlen,?_⟩;have h63:(l++[m]).length<=9223372036854775807:=by grind [aD]
 simp only[aqk,aqc,aqJ,aqu]at hlen h63 hfit;obtain⟨hd2',e0,hm⟩:=hp.at ho2 rfl;rw[W]at e0;cases e0;have hK2:id2∈K:=XN
 have hK:∀ id∈K,∃ hd,own id=some hd:=by
  grind
 have hKb:∀ b∈hd.bs,∃ id∈K,∃ hd,own id=some hd/\b∈hd.bs:=by
  grind
 have hdisj:∀ b∈hd.bs,b ∉ E.bs:=by
  rcases hd0 with⟨h1,rfl⟩ | ⟨id,hne,h1,rfl⟩;grind
  intro b hb hb2;exact hne (hp.inj id id2 hd E b h1 W hb hb2)
 have hlt:∀ b∈hd.bs,b<w.heap.size:=λb hb=>by have⟨id,_,hd',h1,h2⟩:=hKb b hb;exact hp.lt id hd' b h1 h2
 have hnd2:E.bs.Nodup:=by
  rcases hm.blocks with e| ⟨b,e⟩ <;>rw[e] <;>simp
 have hsrc:∃ a c,u=.slice a 1 c/\∀ w1:World,w1.heap=w.heap->(Builtin.firstCells i.size 1 u).run P w1=.ok #[E.v] w1:=by
  cases hu with
  |ls c hz h0 h1 h2=>
   rename_i m b o cap;have hm1:m=1:=by simpa using hz
   subst hm1;have⟨q1,q2⟩:=h1 0 _ rfl;have⟨hd3,q3,q4,q5⟩:=i7 (h2 0 _ rfl);refine⟨_,_,rfl,λw1 hw1=>?_⟩;have:=run_firstCells_some (P:=P) w1 i.size 1 ⟨b,o,none⟩ 1 cap [E.v] (by simp[hsz]) (λj v hj=>by
    grind [pb,w7])
   omega
 obtain⟨au,cu,hue,Y⟩:=hsrc;have fin:∀ (l5:Own) (w':World),at4 F own w l5 w'->(∀ b∈E.bs,w'.heap[b]? =w.heap[b]?)->atJ F l5 w' k m E.v E.bs:=λl5 w' g hb=>atJ.carry g.at7 hb hm;have grow:∀ (a0:Option Addr) (cap:Nat) (bs:List Nat),hd.v=.slice a0 l.length cap->cap<l.length+1->(∀ w1:World,w1.heap=w.heap->(Builtin.firstCells i.size l.length hd.v).run P w1=.ok hd.vs.toArray w1)->hd.vs.length=l.length->bs.Nodup->(∀ b∈bs,b∈hd.bs)->
   atK F own w k l hd.vs bs->
   ∃ v' hd' w',(Builtin.append_ #[t,t2] ty #[hd.v,u]).run P w=.ok v' w'/\hd'.v=v'/\rR v'=true/\Step F own w (bu h (K.map (λid=>(id,Ob.dead))++[(nx,.atH k (l++[m]))])) (own.move K nx hd') w':=by
  intro a0 cap bs hv hcap holds hol hbn X hgi;rw[hv]at holds;have V:=wo (P:=P) (ty:=ty) ht ht2 hi hz holds ⟨au,cu,hue⟩ (news:=[E.v]) Y hcap h63 hfit;rw[<-hv]at V;have hge:=uq w (l.length+1) cap e;let cs:=hd.vs.toArray++[E.v].toArray++Builtin.zeroCells z.cells (grownCap w (l.length+1) cap e - (l.length+1))
  have hcs:cs.size=grownCap w (l.length+1) cap e:=by
   grind [t8]
  refine⟨_,⟨none,_,hd.vs++[E.v],w.heap.size::(bs++E.bs)⟩,_,V,rfl,rfl,ml hp hn K hK _ _ (λb hb=>?_) (λb hb _=>?_) ?_ rfl rfl rfl λl5 g=>?_⟩;simp_all <;>grind;exact tx w.drew _ b hb;simp_all;have O:∀ b,b<w.heap.size->(w.drew.alloc (.cells cs e)).heap[b]? =w.heap[b]?:=λb hb=>tx w.drew _ b hb;refine .inr ⟨w.heap.size,0,grownCap w (l.length+1) cap e,cs,e,bs++E.bs,by simp,rfl,?_,lW w.drew _,XM,XN,XN,λq v hq=>?_,?_⟩;rw[aqQ,art];refine⟨λhb=>?_,hbn,hnd2,λa ha b hb e=>hdisj a (X a ha) (e▸hb)⟩;rcases aqz.1 hb with hb|hb;grind
  exact arh _ (hp.lt id2 E _ W hb);grind
  exact atK.app hone (fin l5 _ g λb hb=>O b (hp.lt id2 E b W hb)) (hgi.carry g.at7 λb hb=>O b (hlt b (X b hb)))
 rcases hob with⟨hv,rfl,hvs,hbs⟩ | ⟨b,o,cap,cs,tyb,bs,hv,hbs,hbn,h4,h5,h6,h7,h8,h9⟩;refine grow none 0 [] hv (by simp) (λw1 _=>by simp_all [Builtin.firstCells]) (by rw[hvs];rfl) arz (λb hb=>by cases hb) ?_;rw[hvs];rfl;have hbn':=hbn;rw[hbs,aqQ]at hbn';by_cases hroom:l.length+1<=cap
 obtain⟨cs',w',q1,q2,q3,q4⟩:=kL (P:=P) (b:=b) (o:=o+l.length*i.size) (ty:=tyb) [E.v] 0 w cs h4 XN (λv hv=>by grind [nY]);have V:=zz (P:=P) (ty:=ty) ht ht2 hi (b:=b) (o:=o) (n:=l.length) (cap:=cap) (news:=[E.v]) ⟨au,cu,hue⟩ (Y w rfl) hroom (w':=w') q1;have O:∀ c,c≠b->w'.heap[c]? =w.heap[c]?:=q2.other;rw[<-hv]at V;refine⟨_,⟨none,_,hd.vs++[E.v],b::(bs++E.bs)⟩,w',V,rfl,rfl,ml hp hn K hK _ _ (λc hc=>?_) (λb' hb' hn'=>q2.other b' λe=>hn' XN) (by rw[q2.size];omega) q2.os q2.tape q2.output λl5 g=>?_⟩;grind
 refine .inr ⟨b,o,cap,cs',tyb,bs++E.bs,by simp,rfl,?_,q2.here,XM,XN,XN,λq v hq=>?_,?_⟩;grind
 have hvl:=h9.len;rw[aq7]at hq;split at hq
 grind
 have:q=hd.vs.length:=XN
 simp_all;exact atK.app hone (fin l5 _ g λc hc=>O c λe=>hdisj b (by simp[hbs]) (e▸hc)) (h9.carry g.at7 λc hc=>O c λe=>hbn'.1 (e▸hc));refine grow _ cap bs hv XM (λw1 hw1=>?_) h9.len hbn'.2 (λc hc=>XN) h9;rw[hv];refine run_firstCells_some (P:=P) w1 i.size l.length ⟨b,o,none⟩ _ cap hd.vs (by rw[h9.len,hsz,asC]) λj v hj=>?_;grind [pb,eU]
def _root_.Go.Sx.Own.fz (a:Own)(b:Nat):Own:=λj=>if j=b then(a j).map (λc=>{ c with bs:=[]})else a j
theorem afA(E:Hp F own w h){id:Nat}{hd:Hd}(hid:own id=some hd){b:Nat}(V:b∈hd.bs):¬dn F (own.fz id) b:=by
 rintro (W| ⟨j,X,e,Y⟩);exact E.apart id hd b hid V W;simp[Own.fz]at e;by_cases O:j=id
 grind
 rw[if_neg O]at e;exact O (E.inj j id X hd b e hid Y V)
theorem afB(E:Hp F own w h){id b:Nat}(Y:w.heap.size<=b):¬dn F (own.fz id) b:=by
 rintro (O| ⟨j,W,e,X⟩);exact absurd (E.atu b O) XM;simp[Own.fz]at e;by_cases V:j=id
 simp_all <;>grind;rw[if_neg V]at e;exact absurd (E.lt j W b e X) XM
theorem Yn {id:Nat}{hd:Hd}(hid:own id=some hd){w':World}(E:∀ b,b<w.heap.size->b ∉ hd.bs->w'.heap[b]? =w.heap[b]?)(W:w.heap.size<=w'.heap.size)(Y:w'.os=w.os)(X:w'.tape=w.tape)(q4:w'.output=w.output):Fr { w:=w,own:=own} (own.fz id) w':=by
 refine Fr.auk (λj O h1=>?_) (λj O b h1 h2=>?_) (λb hb V=>E b hb λhm=>V ⟨id,hd,hid,hm⟩) W Y X q4;simp[Own.fz];by_cases e:j=id
 exact⟨{ O with bs:=[]},XN,rfl,rfl,rfl⟩;exact⟨O,XN,.refl _⟩;grind [Own.fz]
theorem Nu(V:Hp F own w h){id:Nat}{hd:Hd}(hid:own id=some hd){w':World}(E:Ob)(fr:Fr { w:=w,own:=own} (own.fz id) w')(O:∀ b,b<w.heap.size->b ∉ hd.bs->w'.heap[b]? =w.heap[b]?)
  (hob:atY F (own.fz id) w' { hd with bs:=[]} E):Step F own w (bu h [(id,E)]) (own.fz id) w':=by
 have Y:id<h.length:=V.dom _ _ hid;have hat:∀ j,aq (bu h [(id,E)]) j=if id=j then E else aq h j:=λj=>dM ..;have X:(bu h [(id,E)]).length=h.length:=by show(cO h id E).length=_;rw[cJ,if_pos Y]
 refine⟨V.upd fr.aub (λj=>j=id) XM (λj W=>?_) (λj W hu h1=>?_) (λj hu _=>?_),fr,λj h1 _=>?_⟩;refine⟨by simp[Own.fz,W],XN,λhd' b h1 h2=>O b (V.lt j hd' b h1 h2) λhm=>W (V.inj j id hd' hd b h1 hid h2 hm)⟩;simp[Own.fz]at h1;grind
 simp_all [Own.fz];grind [Own.fz]
variable {l:List k.T}
theorem atT.rs{o b cap:Nat}{cs:Array Value}(hc:l.length<=cap)(V:l.length<=aD)(X:¬dn F own b)(W:w.heap[b]? =some (.cells cs ty (0,0)))(O:atT F own w k l o cs):Rel F own w (.rs k l) (.slice (some ⟨b,o,none⟩) l.length cap):=by
 refine .rs (λi j=>cs.getD (o+i*ae k+j) undef) hc V (λi x hi j s E=>⟨X,?_⟩) (λi x hi j s E=>?_);have⟨u,e1,_⟩:=O i x hi j s E;rw[eU W];simp_all;have⟨u,e1,e2⟩:=O i x hi j s E;simp_all
theorem SS(hp:Hp F own w h){i:TypeInfo}(ht:P.underlying t=some (.slice e))(ht2:P.underlying t2=some (.slice e2))(hi:P.info? e=some i)(hz:i.zero=some z)(hzs:z.cells.size=i.size)(hk:i.size=ae k)(hby:1<=i.bytes)
   {id:Nat} {hd:Hd} (hid:own id=some hd) (hrow:atJ F own w k l hd.v hd.bs) (hfit:(l++l).length*i.bytes<=dh):
  (l++l).length<=aD/\∃ v' w',(Builtin.append_ #[t,t2] ty #[hd.v,hd.v]).run P w=.ok v' w'/\Rel F (own.fz id) w' (.rs k (l++l)) v'/\Step F own w (bu h [(id,.fz k l)]) (own.fz id) w':=by
 have hlen:(l++l).length<=aD:=by
  have:(l++l).length<=(l++l).length*i.bytes:=arl _ hby;grind [dh,aD]
 refine⟨hlen,?_⟩;have h63:(l++l).length<=9223372036854775807:=by grind [aD]
 obtain⟨news,hs⟩:=Ns (P:=P) hrow;have W:=hs.len;have hlen2:=hlen;rw[aqk]at hlen2 h63 hfit;have two:∀ (l5:Own) (w':World),at4 F own w l5 w'->∀ (o:Nat) (cs:Array Value),(∀ (q:Nat) (x:k.T),l[q]? =some x->∀ (j:Nat) (s:SV),(cellsOf k x)[j]? =some s->∃ u,cs[o+q*ae k+j]? =some u/\Rel F own w s u)->
   (∀ (q:Nat) (x:k.T),l[q]? =some x->∀ (j:Nat) (s:SV),(cellsOf k x)[j]? =some s->∃ u,cs[o+l.length*ae k+(q*ae k+j)]? =some u/\Rel F own w s u)->atT F l5 w' k (l++l) o cs:=by
  intro l5 w' g o cs a1 a2 q x Y j s hj;rw[aq7]at Y;split at Y
  have⟨u,e1,e2⟩:=a1 q x Y j s hj;exact⟨u,e1,e2.mono g⟩;have⟨u,e1,e2⟩:=a2 (q - l.length) x Y j s hj;refine⟨u,?_,e2.mono g⟩;have hqq:o+q*ae k+j=o+l.length*ae k+((q - l.length)*ae k+j):=by
   have:q=l.length+(q - l.length):=XM
   grind
  simp_all
 rcases hrow with⟨a,hv,rfl,hbs⟩ | ⟨b,o,cap,cs,tyb,hv,hbs,h3,h4,h5,h6,h7⟩;have hnw:news=[]:=aqn (by simpa using hs.size);subst hnw;have E:=hs.cells w rfl;have O:=Fb (P:=P) (ty:=ty) ht ht2 hi (a0:=a) (cap:=0) W (by rw[hk];exact E);rw[<-hv]at O;have fr:=Yn hid (w':=w) (λ_ _ _=>rfl) (aqb _) rfl rfl rfl;exact⟨_,w,O,by rw[hv];exact .rs0,Nu hp hid _ fr (λ_ _ _=>rfl) (by rw[hv];exact .rs0)⟩;have hnb:¬dn F (own.fz id) b:=afA hp hid (by simp[hbs]);have E:=hs.cells;rw[hv]at W E;by_cases hroom:l.length+l.length<=cap
 have hfits:o+l.length*ae k+news.length<=cs.size:=by
  rw[hs.size];have:(l.length+l.length)*ae k<=cap*ae k:=aqm _ hroom;grind
 obtain⟨cs',w',q1,q2,q3,q4⟩:=kL (P:=P) (b:=b) (o:=o+l.length*ae k) (ty:=tyb) news 0 w cs h3 XM hs.one;have O:=zz (P:=P) (ty:=ty) ht ht2 hi (b:=b) (o:=o) (n:=l.length) (cap:=cap) W (by rw[hk];exact E w rfl) hroom (w':=w') XN;rw[<-hv]at O;have V:∀ X,X<w.heap.size->X ∉ hd.bs->w'.heap[X]? =w.heap[X]?:=λX _ hn=>q2.other X λe=>hn XN;have fr:=Yn hid V (by rw[q2.size];omega) q2.os q2.tape q2.output;have hat:=two _ _ fr.aub o cs' (λq x Y j s hj=>by
   have⟨u',e1,e2⟩:=h7 q x Y j s hj;have hjl:j<ae k:=by grind [cb]
   have hlt:=(aqe.1 Y).1;have:(q+1)*ae k<=l.length*ae k:=aqm _ hlt;grind) (λq x Y j s hj=>by
   have⟨u',e1,e2⟩:=hs.rel q x Y j s hj;have hb:=(aqe.1 e1).1;simp_all)
 refine⟨_,w',O,?_,Nu hp hid _ fr V ?_⟩;have:=atT.rs (cap:=cap) XN hlen hnb q2.here hat;grind
 rw[hv];exact atT.rs h5 h6 hnb q2.here λq x Y=>hat q x XN;have O:=wo (P:=P) (ty:=ty) (a0:=some ⟨b,o,none⟩) (n:=l.length) (olds:=news) ht ht2 hi hz (λw1 hw1=>by rw[hk];exact E w1 hw1) W (by rw[hk];exact E) XM h63 hfit;rw[<-hv]at O;have hge:=uq w (l.length+l.length) cap e;let cs2:=news.toArray++news.toArray++Builtin.zeroCells z.cells (grownCap w (l.length+l.length) cap e - (l.length+l.length))
 have V:∀ X,X<w.heap.size->(w.drew.alloc (.cells cs2 e)).heap[X]? =w.heap[X]?:=λX hb'=>tx w.drew _ X hb';have fr:=Yn hid (w':=w.drew.alloc (.cells cs2 e)) (λX hb' _=>V X hb') XN rfl rfl rfl;have hat:=two _ _ fr.aub 0 cs2 (λq x Y j s hj=>by
   have⟨u',e1,e2⟩:=hs.rel q x Y j s hj;grind) (λq x Y j s hj=>by
   have⟨u',e1,e2⟩:=hs.rel q x Y j s hj;have hb:=(aqe.1 e1).1;have hsz:=hs.size;simp only[cs2];simp_all [aqv])
 refine⟨_,_,O,?_,Nu hp hid _ fr (λX hb' _=>V X hb') ?_⟩;have:=atT.rs (cap:=grownCap w (l.length+l.length) cap e) XN hlen (afB hp (id:=id) (aqb _)) (lW w.drew _) hat;grind
 rw[hv];refine atT.rs h5 h6 hnb (by rw[V b (wj h3)];exact h3) λq x Y j s hj=>?_;have⟨u',e1,e2⟩:=h7 q x Y j s hj;exact⟨u',e1,e2.mono fr.aub⟩
theorem SU(hp:Hp F own w h){X:TypeId}{i:TypeInfo}(ht:P.underlying t=some (.slice e))(ht2:P.underlying t2=some (.slice X))(hi:P.info? e=some i)(hz:i.zero=some z)(hzs:z.cells.size=i.size)(hk:i.size=ae k)(hby:1<=i.bytes)
   (hm:m≠[]) {a:Option Addr} {u:Value} {olds news:List Value} (ho:Src P F own w k l (.slice a l.length l.length) olds) (hs:Src P F own w k m u news) (O:(l++m).length*i.bytes<=dh):
  (l++m).length<=aD/\∃ v' w',(Builtin.append_ #[t,t2] ty #[.slice a l.length l.length,u]).run P w=.ok v' w'/\Rel F own w' (.rs k (l++m)) v'/\Step F own w (bu h []) own w':=by
 have E:(l++m).length<=aD:=by
  have:(l++m).length<=(l++m).length*i.bytes:=arl _ hby;grind [dh,aD]
 refine⟨E,?_⟩;have h63:(l++m).length<=9223372036854775807:=by grind [aD]
 have W:=E;rw[aqk]at W h63 O;have hm1:0<m.length:=aqS.2 hm;have Y:=wo (P:=P) (w:=w) (ty:=ty) (a0:=a) (n:=l.length) (olds:=olds) ht ht2 hi hz (λw1 hw1=>by rw[hk];exact ho.cells w1 hw1) hs.len (by rw[hk];exact hs.cells) XM h63 O;let cs2:=olds.toArray++news.toArray++Builtin.zeroCells z.cells (grownCap w (l.length+m.length) l.length e - (l.length+m.length))
 have V:Below w.heap.size w (w.drew.alloc (.cells cs2 e)):=⟨rfl,rfl,rfl,by show w.heap.size<=(w.heap.push _).size;rw[Array.size_push];omega,λb V=>tx w.drew _ b V⟩;have hge:=uq w (l.length+m.length) l.length e;refine⟨_,_,Y,?_,hp.below V,(Fr.refl { w:=w,own:=own}).below V,λ_ h1 _=>h1⟩;have g:at4 F own w own (w.drew.alloc (.cells cs2 e)):=((Fr.refl { w:=w,own:=own}).below V).aub;have:=atT.rs (F:=F) (own:=own) (k:=k) (l:=l++m) (cap:=grownCap w (l.length+m.length) l.length e) XN E (λho=>by
  rcases ho with hf| ⟨j,hj,e,hm⟩;exact absurd (hp.atu _ hf) (arh _);exact absurd (hp.lt j hj _ e hm) (arh _)) (lW w.drew (.cells cs2 e)) (o:=0) (λq x hq j s hj=>by
  have o1:=ho.size;rw[aq7]at hq;split at hq
  have⟨u',e1,X⟩:=ho.rel q x hq j s hj;refine⟨u',?_,X.mono g⟩;have V:=(aqe.1 e1).1;rw[aqv (by simp;omega),aqv (by simpa using V)];simpa using e1;have⟨u',e1,X⟩:=hs.rel (q - l.length) x hq j s hj;refine⟨u',?_,X.mono g⟩;have V:=(aqe.1 e1).1;have hqq:0+q*ae k+j=olds.length+((q - l.length)*ae k+j):=by
   have:q=l.length+(q - l.length):=XM
   grind
  rw[hqq];rw[aqv (by simp;omega),arw (by simp)];simpa using e1)
 rw[aqk]at this;exact this
def Fc (F:Nat->Prop)(own:Own)(w:World)(h:List Ob)(run:Result Value)(r:OR):Prop:=
 ∃ c a ups s,r=.eff c a ups s/\(c->a/\∃ u l5 w',run=.ok u w'/\Rel F l5 w' s u/\Step F own w (bu h ups) l5 w')
theorem GD(hp:Hp F own w h){nx:Nat}(hn:auv own h nx){ti X te:TI}(ht:jZ P t=some ti)(ht2:jZ P t2=some X)(hte:jZ P ti.elem=some te)(hsl:ti.isSlice=true)(W:X.isSlice=true)
    {u:Value} {bs:List Nat} (V:atJ F own w k l v bs) {K:List Nat} (hK:∀ id∈K,∃ hd,own id=some hd) (hKb:∀ b∈bs,∃ id∈K,∃ hd,own id=some hd/\b∈hd.bs) (hKo:∀ id∈K,∀ hd,own id=some hd->∀ b∈hd.bs,b∈bs) {E:SV} (Y:Rel F own w E u) {r:OR} (O:zc te nx (K.map λid=>(id,Ob.dead)) h E (.row k l)=r) (hne:r≠ .bad):
  Fc F own w h ((Builtin.append_ #[t,t2] ty #[v,u]).run P w) r:=by
 obtain⟨i,d,z,hi,hd,hz,hq,rfl⟩:=bY ht;obtain⟨i2,d2,z2,hi2,hd2,hz2,hq2,rfl⟩:=bY ht2;have⟨ie,de,ze,hie,hde,hze,hqe,hte'⟩:=bY hte;cases d <;>simp[eD]at hsl;cases d2 <;>simp[eD]at W;simp[zc]at O;cases hc:Nat.beq te.size (ae k)&&Nat.beq (sz te.zero) te.size&&Nat.ble 1 te.bytes with
 |false=>grind
 |true=>
  rw[hc]at O;cases hs:w6 k h E with
  |none=>rw[hs]at O;exact absurd O.symm hne
  |some m=>
   rw[hs]at O;subst O;simp only[ap9,tB]at hc;have hes:te.size=ie.size:=by rw[hte'];rfl
   have heb:te.bytes=ie.bytes:=by rw[hte'];rfl
   have hez:te.zero=svs ze:=by simp_all [eD]
   have c1:=ap_ hc.1.1;have c2:=ap_ hc.1.2;have c3:=nbl hc.2;have⟨news,hsr⟩:=Nt (P:=P) hp Y hs;refine⟨_,_,_,_,rfl,λhfit=>?_⟩;have⟨q1,v',hd',w',q2,q3,q4,q5⟩:=Wo (P:=P) (ty:=ty) hp hn hd hd2 hie hze (by grind [svs]) (k:=k) XM XM (.inl V) hK hKb hKo hsr XN;refine⟨q1,v',_,w',q2,?_,q5⟩;rw[<-q3];exact .os (by simp[Own.move]) XN
theorem acj(hp:Hp F own w h){nx:Nat}(hn:auv own h nx){ti ti2 te:TI}(ht:jZ P t=some ti)(ht2:jZ P t2=some ti2)(hte:jZ P ti.elem=some te)(hsl:ti.isSlice=true)(Y:ti2.isSlice=true)
  {l:List SV} {vs:Array Value} (hl:atP F own w l vs) {r:OR} (E:nW te nx h l=r) (W:r≠ .bad):Fc F own w h ((Builtin.append_ #[t,t2] ty vs).run P w) r:=by
 have two:∀ (d s:SV),l=[d,s]->∃ vd vu,vs= #[vd,vu]/\Rel F own w d vd/\Rel F own w s vu:=by
  rintro d s rfl;obtain⟨⟨a⟩⟩:=vs;exact absurd hl.1 (by simp);rename_i x xs;cases xs with
  |nil=>exact absurd hl.1 (by simp)
  |cons y ys=>
   cases ys with
   |nil=>exact⟨x,y,rfl,by simpa using hl.2 0 _ rfl,by simpa using hl.2 1 _ rfl⟩
   |cons _ _=>exact absurd hl.1 (by simp)
 have atH:∀ (e e2:TypeId) (ie:TypeInfo) (ze:Value),P.underlying t=some (.slice e)->P.underlying t2=some (.slice e2)->P.info? e=some ie->ie.zero=some ze->te.size=ie.size->te.bytes=ie.bytes->te.zero=svs ze->True:=λ_ _ _ _ _ _ _ _ _ _ _=>trivial;obtain⟨i,d,z,hi,hd,hz,hq,hti⟩:=bY ht;obtain⟨i2,d2,z2,hi2,X,hz2,hq2,hti2⟩:=bY ht2;obtain⟨ie,de,ze,hie,hde,hze,hqe,hte'⟩:=bY hte;have hes:te.size=ie.size:=by rw[hte'];rfl
 have heb:te.bytes=ie.bytes:=by rw[hte'];rfl
 have hez:te.zero=svs ze:=by simp_all [eD]
 have hsle:∃ e,d=.slice e/\P.info? e=some ie:=by
  subst hti;cases d <;>simp[eD]at hsl;grind [eD]
 have hsle2:∃ e,d2=.slice e:=by
  subst hti2;cases d2 <;>simp[eD]at Y;grind
 obtain⟨e,rfl,hie'⟩:=hsle;obtain⟨e2,rfl⟩:=hsle2;unfold nW at E;split at E
 ·rename_i id id2;obtain⟨vd,vu,rfl,V,O⟩:=two _ _ rfl;cases hc:Nat.beq te.size 1&&Nat.beq (sz te.zero) 1&&Nat.ble 1 te.bytes&& !(Nat.beq id id2)with
  |false=>grind
  |true=>
   rw[hc]at E;simp only[ap9,tB]at hc;have c1:=ap_ hc.1.1.1;have c2:=ap_ hc.1.1.2;have c3:=nbl hc.1.2;have hne2:id≠id2:=λe=>by simp_all
   cases ho:aq h id with
   |atH k l=>
    rw[ho]at E;simp[Hb]at E;cases ho2:aq h id2 with
    |row k' m'=>
     rw[ho2]at E;simp[ab1]at E;cases hcast:Cm k k' m' with
     |none=>rw[hcast]at E;exact absurd E.symm W
     |some m=>
      obtain⟨ek,rfl⟩:=vj hcast;subst ek;rw[hcast]at E;subst E;obtain⟨hdd,h1,rfl,h2⟩:=i7 V;have⟨hd',e0,e1⟩:=hp.at ho rfl;rw[h1]at e0;cases e0;have h2id:∃ X,own id2=some X/\rR X.v=true:=by
       cases O with
       |ls c hz h0 q1 q2=>have⟨hd3,q3,q4,q5⟩:=i7 (q2 0 _ rfl);grind
      have⟨hdd2,h3,h4⟩:=h2id;refine⟨_,_,_,_,rfl,λhfit=>?_⟩;have⟨q1,v',hd',w',q2,q3,q4,q5⟩:=Hv (P:=P) (ty:=ty) hp hn hd X hie' hze XM (by grind [svs]) XM h3 ho2 h4 e1 (.inr ⟨id,hne2,h1,rfl⟩) O XN;refine⟨q1,v',_,w',q2,?_,q5⟩;rw[<-q3];exact .os (by simp[Own.move]) XN
    |_=>rw[ho2]at E;exact absurd E.symm W
   |_=>rw[ho]at E;exact absurd E.symm W
 ·rename_i id2;obtain⟨vd,vu,rfl,V,O⟩:=two _ _ rfl;cases hc:Nat.beq te.size 1&&Nat.beq (sz te.zero) 1&&Nat.ble 1 te.bytes with
  |false=>grind
  |true=>
   rw[hc]at E;simp only[ap9,tB]at hc;have c1:=ap_ hc.1.1;have c2:=ap_ hc.1.2;have c3:=nbl hc.2;cases ho2:aq h id2 with
   |row k m=>
    rw[ho2]at E;subst E;have:=cV V;subst this;have h2id:∃ X,own id2=some X/\rR X.v=true:=by
     cases O with
     |ls c hz h0 q1 q2=>have⟨hd3,q3,q4,q5⟩:=i7 (q2 0 _ rfl);grind
    have⟨hdd2,h3,h4⟩:=h2id;refine⟨_,_,_,_,rfl,λhfit=>?_⟩;have⟨q1,v',hd',w',q2,q3,q4,q5⟩:=Hv (P:=P) (ty:=ty) (l:=[]) (hd:=⟨none,.slice none 0 0,[],[]⟩) hp hn hd X hie' hze XM (by grind [svs]) XM h3 ho2 h4 (.inl ⟨rfl,rfl,rfl,rfl⟩) (.inl ⟨rfl,rfl⟩) O XN;refine⟨q1,v',_,w',q2,?_,q5⟩;rw[<-q3];exact .os (by simp[Own.move]) XN
   |_=>rw[ho2]at E;exact absurd E.symm W
 rename_i id id2;obtain⟨vd,vu,rfl,V,O⟩:=two _ _ rfl;obtain⟨hdd,h1,rfl,h2⟩:=i7 V;cases heq:Nat.beq id id2 with
 |true=>
  have auR:=ap_ heq;subst auR;obtain⟨hdd',h1',rfl,_⟩:=i7 O;cases ho:aq h id with
  |row k l=>
   rw[ho]at E;simp[ab3]at E;have⟨hd',e0,e1⟩:=hp.at ho rfl;rw[h1]at e0;cases e0;cases hc:Nat.beq te.size (ae k)&&Nat.beq (sz te.zero) te.size&&Nat.ble 1 te.bytes with
   |false=>grind
   |true=>
    rw[hc]at E;subst E;simp only[ap9,tB]at hc;have c1:=ap_ hc.1.1;have c2:=ap_ hc.1.2;have c3:=nbl hc.2;refine⟨_,_,_,_,rfl,λhfit=>?_⟩;have⟨q1,v',w',q2,q3,q4⟩:=SS (P:=P) (ty:=ty) hp hd X hie' hze (by grind [svs]) (k:=k) XM XM h1 e1 XN;grind
  |_=>rw[ho]at E;simp[ab3]at E;exact absurd E.symm W
 |false=>
  rw[heq]at E;cases ho:aq h id with
  |row k l=>
   rw[ho]at E;have⟨hd',e0,e1⟩:=hp.at ho rfl;rw[h1]at e0;cases e0;exact GD (P:=P) (K:=[id]) hp hn ht ht2 hte hsl Y e1 XN (λb hb=>⟨id,by simp,hdd,h1,hb⟩) (λid' hid hd' hh b hb=>XN) O E W
  |_=>rw[ho]at E;simp[zc]at E;exact absurd E.symm W
 rename_i id src _ _;obtain⟨vd,vu,rfl,V,O⟩:=two _ _ rfl;obtain⟨hdd,h1,rfl,h2⟩:=i7 V;cases ho:aq h id with
 |row k l=>
  rw[ho]at E;have⟨hd',e0,e1⟩:=hp.at ho rfl;rw[h1]at e0;cases e0;exact GD (P:=P) (K:=[id]) hp hn ht ht2 hte hsl Y e1 XN (λb hb=>⟨id,by simp,hdd,h1,hb⟩) (λid' hid hd' hh b hb=>XN) O E W
 |_=>rw[ho]at E;simp[zc]at E;exact absurd E.symm W
 obtain⟨vd,vu,rfl,V,O⟩:=two _ _ rfl;have:=cV V;subst this;unfold xS at E;split at E
 exact GD (P:=P) (K:=[]) (l:=[]) (bs:=[]) hp hn ht ht2 hte hsl Y (.inl ⟨none,rfl,rfl,rfl⟩) (by simp) (λb hb=>by cases hb) (λid hid=>by cases hid) O E W;grind
 obtain⟨vd,vu,rfl,V,O⟩:=two _ _ rfl;cases V with
 |e0=>
  unfold xS at E;split at E
  exact GD (P:=P) (K:=[]) (l:=[]) (bs:=[]) hp hn ht ht2 hte hsl Y (.inl ⟨_,rfl,rfl,rfl⟩) (by simp) (λb hb=>by cases hb) (λid hid=>by cases hid) O E W;grind
 rename_i k l src;obtain⟨vd,vu,rfl,V,O⟩:=two _ _ rfl;cases V with
 |rc V=>
  unfold ab4 at E;cases hc:Nat.beq te.size (ae k)&&Nat.beq (sz te.zero) te.size&&Nat.ble 1 te.bytes with
  |false=>grind
  |true=>
   rw[hc]at E;cases hs:w6 k h src with
   |none=>rw[hs]at E;exact absurd E.symm W
   |some m=>
    rw[hs]at E;cases m with
    |nil=>exact absurd E.symm W
    |cons x m=>
     subst E;simp only[ap9,tB]at hc;have c1:=ap_ hc.1.1;have c2:=ap_ hc.1.2;have c3:=nbl hc.2;have⟨news,hsr⟩:=Nt (P:=P) hp O hs;have⟨olds,hol⟩:=Nt (P:=P) hp V (k:=k) (m:=l) (by simp[w6,Cm]);refine⟨_,_,_,_,rfl,λhfit=>?_⟩;have⟨q1,v',w',q2,q3,q4⟩:=SU (P:=P) (ty:=ty) hp hd X hie' hze (by grind [svs]) (k:=k) XM XM (by simp) hol hsr XN;exact⟨q1,v',own,w',q2,q3,q4⟩
 grind
end
section
variable {P:Program}{F:Nat->Prop}{own:Own}{w:World}
theorem SW:∀ {l m:List SV},xQ l m=true->∀ {vs:Array Value},atP F own w m vs->atP F own w l vs:=by
 have one:∀ {a b:SV} {v:Value},Ul a b=true->Rel F own w b v->Rel F own w a v:=by
  intro a b v h hr;unfold Ul at h;split at h
  grind [SI]
  simp_all;exact hr;have:=cV hr;subst this;exact .rs0;have:=cV hr;subst this;exact .rm0;exact hr;cases h
 intro l m h vs hr;have len:∀ {l m:List SV},xQ l m=true->l.length=m.length:=by
  intro l;induction l with
  |nil=>grind [xQ]
  |cons a l O=>intro m h;cases m with
   |nil=>simp[xQ]at h|cons b m=>grind [xQ]
 have get:∀ {l m:List SV} (j:Nat) (s:SV),xQ l m=true->l[j]? =some s->∃ b,m[j]? =some b/\Ul s b=true:=by
  intro l;induction l with
  |nil=>grind
  |cons a l O=>
   intro m j s h E;cases m with
   |nil=>grind
   |cons b m=>
    grind [xQ]
 refine⟨by rw[len h];exact hr.1,λj s E=>?_⟩;have⟨b,h1,h2⟩:=get j s h E;exact one h2 (hr.2 j b h1)
theorem UF {a b:Bool}(h:FK a b=true):a=b:=by cases a <;>cases b <;>simp[FK]at h |-
variable {t:TypeId}{k:Tag}
theorem DQ{i:TypeInfo}(h:Ba P t i=some k):G3 P t i k=true:=by
 grind [Ba]
def Cz{i:TypeInfo}(h:Ba P t i=some k):i.size=ae k/\1<=i.bytes/\lw P t=qx k/\∀ z,i.zero=some z->atP F own w (cellsOf k (eT k)) z.cells/\G1 z=qx k:=by
 have E:=DQ h;simp only[G3,ap9]at E;refine⟨ap_ E.1.1.1.2,nbl E.1.1.2,UF E.2,λz O=>?_⟩;grind [SW,Ar,UF]
theorem DR(h:Pt P t=some k):∃ i,P.info? t=some i/\Ba P t i=some k:=by
 grind [Pt]
theorem BB {d:Int}{o:Option SV}{v:Option Value}(E:∀ s,o=some s->∃ u,v=some u/\Rel F own w s u)(hn:o=none->v=none){n:Int}(h:bnd d o=some n):(v=none/\n=d)\/∃ k,v=some (.int k n):=by
 unfold bnd at h;grind [cV]
theorem oI {k:IntKind}{n:Int}{y:Nat}{E:BoundsCode}(h:0<=n/\n<=(y:Int)):(Instr.sliceBound (.int k n) y E).run P w=.ok n.toNat w:=by
 simp_all [Instr.sliceBound,wl]
theorem kM {len cap:Nat}{lo hi:Option Value}{a b:Int}(O:(lo=none/\a=0)\/∃ k,lo=some (.int k a))(E:(hi=none/\b=(len:Int))\/∃ k,hi=some (.int k b))(h:0<=a/\a<=b/\b<=(len:Int))(hc:len<=cap):
  (Instr.sliceBounds true len cap lo hi none).run P w=.ok (a.toNat,b.toNat,cap) w:=by
 rcases E with⟨rfl,rfl⟩ | ⟨k2,rfl⟩ <;>rcases O with⟨rfl,rfl⟩ | ⟨V,rfl⟩;simp[Instr.sliceBounds];simp[Instr.sliceBounds,oI (P:=P) (w:=w) (k:=V) (n:=a) (y:=len) ⟨h.1,h.2.1⟩];simp[Instr.sliceBounds,oI (P:=P) (w:=w) (k:=k2) (n:=b) (y:=cap) ⟨XM,XM⟩];simp[Instr.sliceBounds,oI (P:=P) (w:=w) (k:=k2) (n:=b) (y:=cap) ⟨XM,XM⟩,oI (P:=P) (w:=w) (k:=V) (n:=a) (y:=b.toNat) ⟨h.1,XM⟩]
variable {h:List Ob}{ti te:TI}{v:Value}{lo hi:Option SV}{r:OR}
theorem Wp(hp:Hp F own w h){nx:Nat}(hn:auv own h nx)(ht:jZ P t=some ti)(hte:jZ P ti.elem=some te){s:SV}(hr:Rel F own w s v){vlo X:Option Value}
  (h1:∀ s,lo=some s->∃ u,vlo=some u/\Rel F own w s u) (h1':lo=none->vlo=none) (h2:∀ s,hi=some s->∃ u,X=some u/\Rel F own w s u) (h2':hi=none->X=none)  {vq:Bool} (hvq:vq=true->hi=none) (O:px ti te.size nx h lo hi vq s=r) (hne:r≠ .bad):
  (∃ c s',r=.chk c s'/\(c->∃ u,(Instr.sliceAt t v vlo X none).run P w=.ok u w/\Rel F own w s' u))\/Fc F own w h ((Instr.sliceAt t v vlo X none).run P w) r:=by
 obtain⟨i,d,z,hi',hd,hz,hq,rfl⟩:=bY ht;obtain⟨ie,de,ze,hie,hde,hze,hqe,hte'⟩:=bY hte;have hes:te.size=ie.size:=by rw[hte'];rfl
 have slice:(eD P t i d).isSlice=true->∃ e,d=.slice e/\P.info? e=some ie:=λhs=>by
  cases d <;>simp[eD]at hs;grind [eD]
 cases hr with
 |rs cf q0 q0' q1 q2=>
  rename_i k l b o cap;left;simp only[px]at O;cases Y:(eD P t i d).isSlice&&Nat.beq te.size (ae k)with
  |false=>grind
  |true=>
   rw[Y]at O;simp only[cond_true]at O;simp only[ap9]at Y;obtain⟨e,rfl,W⟩:=slice Y.1;have hsz:=ap_ Y.2;unfold ab7 at O;split at O
   rename_i a c ha hc;refine⟨_,_,O.symm,λE=>?_⟩;have b1:=BB h1 h1' ha;have b2:=BB h2 h2' hc;have V:=kM (P:=P) (w:=w) b1 b2 E q0;have hlen:((l.take c.toNat).drop a.toNat).length=c.toNat - a.toNat:=by simp;omega
   refine⟨.slice (if cap=a.toNat then some ⟨b,o,none⟩else some ⟨b,o+a.toNat*ie.size,none⟩) (c.toNat - a.toNat) (cap - a.toNat),?_,?_⟩;simp[Instr.sliceAt,Instr.slice,aqF,run_underlying hd,aqK,V,dU W,ase,ar6,pb];rw[<-hlen];by_cases hca:cap=a.toNat
   have:(l.take c.toNat).drop a.toNat=[]:=aqn XM;rw[this];exact .rs0;rw[if_neg hca];refine Rel.rs (F:=F) (own:=own) (w:=w) (λi j=>cf (a.toNat+i) j) XM XM (λi x hx j s hj=>?_) (λi x hx j s hj=>?_);simp_all <;>grind;grind
   grind
 |rs0=>
  rename_i k a0 cap;left;simp[px]at O;cases Y:(eD P t i d).isSlice&&Nat.beq te.size (ae k)with
  |false=>grind
  |true=>
   rw[Y]at O;simp[ap9]at Y;obtain⟨e,rfl,W⟩:=slice Y.1;unfold ab7 at O;split at O
   rename_i a c ha hc;refine⟨_,_,O.symm,λE=>?_⟩;have b1:=BB h1 h1' ha;have b2:=BB h2 h2' hc;have V:=kM (P:=P) (w:=w) (cap:=cap) b1 b2 E (aqq _);simp[aqJ]at E;have ea:a=0:=XM
   have ec:c=0:=XM
   subst ea;subst ec;refine⟨_,by
    simp[Instr.sliceAt,Instr.slice,aqF,run_underlying hd,aqK];simp[aqJ]at V;simp[V,dU W];rfl,?_⟩
   exact .rs0;grind
 |os g1 g2=>
  rename_i id hdd;simp only[px]at O;cases Y:(eD P t i d).isSlice with
  |false=>grind
  |true=>
   rw[Y]at O;simp only[cond_true]at O;obtain⟨e,rfl,W⟩:=slice Y;cases vq with
   |true=>
    left;cases ho:aq h id with
    |row k l=>
     rw[ho]at O;simp[X4]at O;cases hb2:Nat.beq te.size (ae k)with
     |false=>grind
     |true=>
      rw[hb2]at O;unfold X3 at O;split at O
      rename_i a ha;refine⟨_,_,O.symm,λE=>?_⟩;have⟨hd',e0,e1⟩:=hp.at ho rfl;rw[g1]at e0;cases e0;have b1:=BB h1 h1' ha;have b2:(X=none/\(l.length:Int)=(l.length:Int))\/∃ k,X=some (.int k (l.length:Int)):=.inl ⟨h2' (hvq rfl),rfl⟩;have hcnd':0<=a/\a<=(l.length:Int)/\(l.length:Int)<=(l.length:Int):=⟨E.1,E.2,aqO _⟩;rcases e1 with⟨a0,m1,rfl,m3⟩ | ⟨b,o,cap,cs,ty,m1,m2,m3,m4,m5,m6,m7⟩;simp[aqJ]at E;have ea:a=0:=XM
      subst ea;have V:=kM (P:=P) (w:=w) (cap:=0) b1 b2 hcnd' (aqq _);refine⟨.slice a0 0 0,?_,Rel.vw (lo:=0) (hi:=(([]:List k.T).length:Int)) (cap:=0) (a:=a0) g1 (.inl (by simp)) (by simp)⟩;simp_all [Instr.sliceAt,Instr.slice,run_underlying,dU];have V:=kM (P:=P) (w:=w) b1 b2 hcnd' m5;refine⟨.slice (if cap=a.toNat then some ⟨b,o,none⟩else some ⟨b,o+a.toNat*ie.size,none⟩) ((l.length:Int).toNat - a.toNat) (cap - a.toNat),?_,Rel.vw g1 ?_ XM⟩;rw[m1];simp[Instr.sliceAt,Instr.slice,aqF,run_underlying hd,aqK,V,dU W,ase,ar6,pb];by_cases hca:cap=a.toNat
      exact .inl XM;rw[if_neg hca];exact .inr ⟨b,o,_,cap,m1,XM,by rw[hes]⟩;grind
    |_=>rw[ho]at O;exact absurd O.symm hne
   |false=>
   right;cases ho:aq h id with
   |row k l=>
    rw[ho]at O;simp only[ab9]at O;cases hb2:Nat.beq te.size (ae k)with
    |false=>grind
    |true=>
     rw[hb2]at O;have hsz:=ap_ hb2;unfold ab8 at O;split at O
     rename_i a c ha hc;subst O;have⟨hd',e0,e1⟩:=hp.at ho rfl;rw[g1]at e0;cases e0;have b1:=BB h1 h1' ha;have b2:=BB h2 h2' hc;refine⟨_,_,_,_,rfl,λE=>⟨trivial,?_⟩⟩;have hK:∀ id'∈[id],∃ hd,own id'=some hd:=XN
     have hlen:((l.take c.toNat).drop a.toNat).length=c.toNat - a.toNat:=by simp;omega
     rcases e1 with⟨a0,m1,rfl,m3⟩ | ⟨b,o,cap,cs,ty,m1,m2,m3,m4,m5,m6,m7⟩;simp[aqJ]at E;have ea:a=0:=XM
     have ec:c=0:=XM
     subst ea;subst ec;have V:=kM (P:=P) (w:=w) (cap:=0) b1 b2 E (aqq _);refine⟨.slice a0 0 0,_,w,?_,?_,ml hp hn [id] hK ⟨none,.slice a0 0 0,[],[]⟩ _ (λb Y=>by simp at Y) (λ_ _ _=>rfl) (aqb _) rfl rfl rfl λl5 g=>.inl ⟨a0,rfl,rfl,rfl⟩⟩;simp_all [Instr.sliceAt,Instr.slice,run_underlying,dU];have:=Rel.os (F:=F) (own:=own.move [id] nx ⟨none,.slice a0 0 0,[],[]⟩) (w:=w) (id:=nx) (hd:=⟨none,.slice a0 0 0,[],[]⟩) (by simp[Own.move]) rfl;exact this;have V:=kM (P:=P) (w:=w) b1 b2 E m5;have hrun:(Instr.sliceAt t hdd.v vlo X none).run P w=.ok (.slice (if cap=a.toNat then some ⟨b,o,none⟩else some ⟨b,o+a.toNat*ie.size,none⟩) (c.toNat - a.toNat) (cap - a.toNat)) w:=by
      rw[m1];simp[Instr.sliceAt,Instr.slice,aqF,run_underlying hd,aqK,V,dU W,ase,ar6,pb]
     by_cases hca:cap=a.toNat
     have avr:(l.take c.toNat).drop a.toNat=[]:=aqn XM;rw[if_pos hca,show c.toNat - a.toNat=0 by omega,show cap - a.toNat=0 by omega]at hrun;refine⟨_,_,w,hrun,?_,ml hp hn [id] hK ⟨none,.slice (some ⟨b,o,none⟩) 0 0,[],[]⟩ _ (λb Y=>by simp at Y) (λ_ _ _=>rfl) (aqb _) rfl rfl rfl λl5 g=>.inl ⟨_,rfl,avr,rfl⟩⟩;exact Rel.os (F:=F) (own:=own.move [id] nx ⟨none,.slice (some ⟨b,o,none⟩) 0 0,[],[]⟩) (w:=w) (id:=nx) (hd:=⟨none,.slice (some ⟨b,o,none⟩) 0 0,[],[]⟩) (by simp[Own.move]) rfl;rw[if_neg hca,<-hlen]at hrun;refine⟨_,_,w,hrun,Rel.os (F:=F) (own:=own.move [id] nx ⟨none,.slice (some ⟨b,o+a.toNat*ie.size,none⟩) ((l.take c.toNat).drop a.toNat).length (cap - a.toNat),[],[b]⟩) (w:=w) (id:=nx) (hd:=⟨none,.slice (some ⟨b,o+a.toNat*ie.size,none⟩) ((l.take c.toNat).drop a.toNat).length (cap - a.toNat),[],[b]⟩) (by simp[Own.move]) rfl,ml hp hn [id] hK _ _ (λb' hb'=>XN) (λ_ _ _=>rfl) (aqb _) rfl rfl rfl λl5 g=>.inr ⟨b,o+a.toNat*ie.size,cap - a.toNat,cs,ty,rfl,rfl,m3,?_,XM,XM,λi x hx j s hj=>?_⟩⟩;rw[<-hes,hsz];have:cap*ae k=a.toNat*ae k+(cap - a.toNat)*ae k:=by rw[<-asB];grind
     omega;have⟨e1,e2⟩:=Bd hx;have⟨u,n1,n2⟩:=m7 _ x e1 j s hj;refine⟨u,?_,n2.mono g⟩;grind
     grind
   |_=>rw[ho]at O;exact absurd O.symm hne
 |_=>simp only[px]at O;exact absurd O.symm hne
theorem Yo(ht:jZ P t=some ti)(hte:jZ P ti.elem=some te){s sm:SV}{vm:Value}(hr:Rel F own w s v)(hm:Rel F own w sm vm){O Y:Option Value}
  (h1':lo=none->O=none) (h2:∀ s,hi=some s->∃ u,Y=some u/\Rel F own w s u)  (E:Hc ti lo hi sm s=r) (hne:r≠ .bad):
  ∃ c s',(r=.val s'/\c\/r=.chk c s')/\(c->∃ u,(Instr.sliceAt t v O Y (some vm)).run P w=.ok u w/\Rel F own w s' u):=by
 obtain⟨i,d,z,hi',hd,hz,hq,rfl⟩:=bY ht;obtain⟨ie,de,ze,hie,hde,hze,hqe,hte'⟩:=bY hte;have slice:(eD P t i d).isSlice=true->∃ e,d=.slice e/\P.info? e=some ie:=λhs=>by
  cases d <;>simp[eD]at hs;grind [eD]
 unfold Hc at E;split at E
 ·rename_i k l;unfold aec at E;split at E
  ·cases hb:(eD P t i d).isSlice with
   |false=>grind
   |true=>
    obtain⟨e,rfl,V⟩:=slice hb;obtain⟨u,rfl,e3⟩:=h2 _ rfl;obtain rfl:=cV hm;obtain rfl:=cV e3;refine⟨_,_,.inr E.symm,λ⟨ha,hb⟩ =>?_⟩;have W:∃ a cap,v=.slice a l.length cap/\l.length<=cap/\Rel F own w (.rs k l) (.slice a l.length l.length):=by
     cases hr with
     |rs c q0 q0' q1 q2=>exact⟨_,_,rfl,q0,.rs c (aqb _) q0' q1 q2⟩|rs0=>exact⟨_,_,rfl,aqq _,.rs0⟩
    obtain⟨a,cap,rfl,hcl,X⟩:=W;have hbd:(Instr.sliceBounds true l.length cap none (some (.int .i64 l.length)) (some (.int .i64 l.length))).run P w=.ok (0,l.length,l.length) w:=by
     simp_all [Instr.sliceBounds,oI]
    refine⟨.slice a l.length l.length,?_,.rc X⟩;simp_all [Instr.sliceAt,Instr.slice,run_underlying,dU,Addr.add]
  grind
 unfold aeb at E;split at E
 cases hb:(eD P t i d).isSlice with
 |false=>grind
 |true=>
  obtain⟨e,rfl,V⟩:=slice hb;obtain⟨u,rfl,e3⟩:=h2 _ rfl;obtain rfl:=cV hr;obtain rfl:=cV hm;obtain rfl:=cV e3;refine⟨True,_,.inl ⟨E.symm,trivial⟩,λ_=>⟨.slice none 0 0,?_,.v _⟩⟩;have hbd:(Instr.sliceBounds true 0 0 none (some (.int .i64 0)) (some (.int .i64 0))).run P w=.ok (0,0,0) w:=by
   rfl
  simp_all [Instr.sliceAt,Instr.slice,run_underlying,dU]
 grind
theorem afC(hp:Hp F own w h){nx:Nat}(hn:auv own h nx)(ht:jZ P t=some ti)(hte:jZ P ti.elem=some te)(hsl:ti.isSlice=true){sl sc:SV}{vl vc:Value}(hrl:Rel F own w sl vl)(hrc:Rel F own w sc vc)(V:mkS nx te sl sc=r)(hne:r≠ .bad):
  Fc F own w h ((Instr.makeSlice t vl vc).run P w) r:=by
 obtain⟨i,d,z,hi,hd,hz,hq,rfl⟩:=bY ht;have⟨ie,de,ze,hie,hde,hze,hqe,hte'⟩:=bY hte;cases d <;>simp[eD]at hsl;rename_i e;unfold mkS at V;split at V
 rename_i n c;have el:=cV hrl;have ec:=cV hrc;subst el;subst ec;unfold mkT at V;split at V
 rename_i k E;subst V;have O:Ba P e ie=some k:=by rw[hte']at E;exact E
 have⟨t1,t2,t3,t4⟩:=Cz (F:=F) (own:=own) (w:=w) O;have heb:te.bytes=ie.bytes:=by rw[hte'];rfl
 refine⟨_,_,_,_,rfl,λ⟨hc1,X,hc3⟩ =>?_⟩;subst hc1;have hnb:n<=n*(ie.bytes:Int):=by
  have:n*1<=n*(ie.bytes:Int):=arf XM X;omega
 have hnm:n<=(aD:Int):=by grind [dh,aD]
 refine⟨hnm,?_⟩;have W:=run_make (P:=P) w t e ie ze hd hie hze .i64 .i64 n n X (aqO _) (by grind [dh]) (by grind [aD]);have Y:=(t4 ze hze).1;have hzs:ze.cells.size=ae k:=by rw[Y.1,cb]
 refine⟨_,_,_,W,Rel.os (F:=F) (id:=nx) (hd:=⟨none,.slice (some ⟨w.heap.size,0,none⟩) n.toNat n.toNat,[],[w.heap.size]⟩) (Own.atQ _ _ _) rfl,w8 hp hn (w1:=w) ⟨rfl,rfl,rfl,rfl⟩ _ _ _ rfl λl5 g=>.inr ⟨w.heap.size,0,n.toNat,_,e,by simp,rfl,lW _ _,?_,by simp,by simp;omega,λq x hx j s hj=>?_⟩⟩;simp_all [size_madeCells];have hxd:x=eT k:=by
  grind
 subst hxd;have hjl:j<ae k:=by grind [cb]
 have hql:q<n.toNat:=XN
 have hlt:q*ae k+j<n.toNat*ae k:=by
  have:(q+1)*ae k<=n.toNat*ae k:=aqm _ hql;grind
 refine⟨ze.cells.getD j undef,?_,(Y.2 j s hj).mono g⟩;simp_all [asG,madeCells];grind
 grind
theorem ack(hp:Hp F own w h){ty:TypeId}(ht:jZ P t=some ti){l:List SV}{vs:Array Value}(hl:atP F own w l vs)(E:wL ti h l=r)(X:r≠ .bad):
  ∃ (n:Nat),((∃ c,r=.asm c (.i n)/\c)\/r=.val (.i n))/\(Builtin.len_ #[t] ty vs).run P w=.ok (.int .i64 n) w:=by
 obtain⟨i,d,z,hi,hd,hz,hq,rfl⟩:=bY ht;have hsl:(eD P t i d).isSlice=true->∀ (a0:Option Addr) (n cap:Nat),(Builtin.len_ #[t] ty #[.slice a0 n cap]).run P w=.ok (.int .i64 n) w:=by
  intro hs a0 n cap;cases d <;>simp[eD]at hs;simp[Builtin.len_,run_underlying hd,goInt]
 have one:∀ s,l=[s]->∃ v,vs= #[v]/\Rel F own w s v:=by
  rintro s rfl;obtain⟨⟨a⟩⟩:=vs;exact absurd hl.1 (by simp);rename_i x xs;cases xs with
  |nil=>exact⟨x,rfl,by simpa using hl.2 0 _ rfl⟩
  |cons _ _=>exact absurd hl.1 (by simp)
 unfold wL at E;split at E
 obtain⟨v,rfl,O⟩:=one _ rfl;cases V:(eD P t i d).isSlice with
 |false=>grind
 |true=>
  cases O <;>grind
 cases V:(eD P t i d).isSlice with
 |false=>grind
 |true=>
  grind [cV]
 obtain⟨v,rfl,O⟩:=one _ rfl;cases V:(eD P t i d).isSlice with
 |false=>grind
 |true=>
  cases O <;>grind
 obtain⟨v,rfl,O⟩:=one _ rfl;cases V:(eD P t i d).isSlice with
 |false=>grind
 |true=>
  cases O with
  |rc O=>
   cases O <;>grind
 rename_i id;obtain⟨v,rfl,O⟩:=one _ rfl;cases V:(eD P t i d).isSlice with
 |false=>
  rw[V]at E;obtain⟨hdd,h1,rfl,_⟩:=i7 O;cases W:aq h id with
  |mp kk vk m aui=>
    rw[W]at E;simp[afn]at E;cases d with
    |map a b0=>
     cases hk:(eD P t i (.map a b0)).mkt.isSome&&noE aui with
     |false=>grind
     |true=>
      rw[hk]at E;subst E;rw[ap9]at hk;have⟨hd',e0,b,es,clk,m1,m2,Y,m4,_⟩:=hp.at W rfl;rw[lz hk.2]at m4;have hg:(getObj b).run P w=.ok (.map es clk) w:=by simp[getObj,Sem.run,Y]
      have hn:es.size=m.length:=m4.1;refine⟨m.length,.inr rfl,?_⟩;simp_all [Builtin.len_,run_underlying,goInt]
    |_=>exact absurd E.symm X
  |_=>rw[W]at E;exact absurd E.symm X
 |true=>
  rw[V]at E;obtain⟨hdd,h1,rfl,_⟩:=i7 O;cases W:aq h id with
  |row k m=>
   simp[ab0]at E;have⟨hd',e0,e1⟩:=hp.at W rfl;rcases e1 with⟨a0,m1,rfl,Y⟩ | ⟨b,o,cap,cs,ty,m1,m2,Y,m4,m5,m6,m7⟩ <;>grind
  |atH k m=>
   simp[ab0]at E;have⟨hd',e0,e1⟩:=hp.at W rfl;rcases e1 with⟨m1,rfl,Y⟩ | ⟨b,o,cap,cs,ty,bs,m1,m2,Y,m4,m5,m6,m7,m8,m9⟩ <;>grind
  |_=>rw[W]at E;exact absurd E.symm X
 rename_i id q;obtain⟨v,rfl,O⟩:=one _ rfl;cases V:(eD P t i d).isSlice with
 |false=>grind
 |true=>
  rw[V]at E;cases W:aq h id with
  |atH k m=>
   simp[afm]at E;have⟨hd',e0,e1⟩:=hp.at W rfl;cases O with
   |gr g1 g2 g3=>
    rw[g1]at e0;cases e0;rcases e1 with⟨_,_,m1,_⟩ | ⟨b,o,cap,cs,ty,bs,m1,m2,Y,m4,m5,m6,m7,m8,m9⟩;grind
    have⟨b1,k1,k2,k3,k4⟩:=m9.get g2;rcases k3 with⟨a0,n1,n2,_⟩ | ⟨b2,o2,cap2,cs2,ty2,n1,n2,n3,n4,n5,n6,n7⟩ <;>grind
  |_=>rw[W]at E;exact absurd E.symm X
 rename_i s m;obtain⟨v,rfl,O⟩:=one _ rfl;cases V:(eD P t i d).isSlice&&Nat.ble 1 s with
 |false=>grind
 |true=>
  rw[V]at E;subst E;simp only[ap9]at V;have hs1:=nbl V.2;cases O with
  |ls c qz q0 q1 q2=>
   rw[tB,<-qz,Nat.mul_div_cancel _ hs1];exact⟨_,.inr rfl,hsl V.1 _ _ _⟩
 grind
end
end Go.Sx
end
