/- Part of the proof that the law RegisterOrder returns true and leaves its arguments as they were, for all arguments of bulk at most 1048576 (the Upto form). -/
import Derived.Test.YthcbieoehjhjfaaGreatQ205
import Derived.Deep.LoopGhost
import Derived.Sort.LoopGhostIn
import Derived.RangeFuncLeaves
import Derived.RangeFuncRecord
set_option linter.all false
set_option maxHeartbeats 4000000
set_option maxRecDepth 100000
section
namespace Go.Sx
open Go.RowKit
theorem Gd {np:Bool}{rd:List Nat}{nx:Nat}{p:Prop}{s:SV}{rows:List Ob}{r:Dr}(h:drR np rd nx p s rows=some r):r.all=rd:=by
 match rows,h with
 | [],h=>simp only[drR]at h;cases hb:(np||dW 3 s) <;>rw[hb]at h <;>cases h;rfl
 | [ob],h=>simp only[drR]at h;cases hb:(np||dW 3 s) <;>rw[hb]at h <;>cases h;rfl
 |_::_::_,h=>simp[drR]at h
theorem Ge {G:Cons}{h:List Ob}{nx nx':Nat}{r0:OR}{r:Dr}(hr:ff G h nx r0=some r)(hn:¬nx∈c8 r.ups\/∀ f args,r0≠ .call f args):ff G h nx' r0=some r:=by
 cases r0 with
 |call f args=>
  have hn:=hn.resolve_right (fun h=>h f args rfl);simp only[ff]at hr |-;cases hc:G.p f (args.map (dl h 6))with
  |none=>rw[hc]at hr;cases hr
  |some c=>
   rw[hc]at hr;cases c with
   |rel=>cases hr
   |may=>cases hr
   |det p s=>
    simp only[drC]at hr |-;generalize av 3 s=rows at hr |-;match rows,hr with
    | [],hr=>exact hr
    | [ob],hr=>
     simp only[drR]at hr;cases hb:(args.all (bO 3) ||dW 3 s) <;>rw[hb]at hr <;>cases hr;simp[c8]at hn
    |_::_::_,hr=>simp[drR]at hr
 |_=>exact hr
theorem pH {f:SV->List Nat}{l:List SV}{x:SV}{id:Nat}(hx:x∈l)(hid:id∈f x):id∈l.flatMap f:=List.mem_flatMap.2 ⟨x,hx,hid⟩
theorem DQ {h h':List Ob}:∀ (n:Nat) (s:SV),(∀ id,id∈eO h n s->ae h id=ae h' id)->dl h n s=dl h' n s:=by
 intro n;induction n with
 |zero=>intro s hs;cases s <;>first|rfl|(simp only[dl];rw[hs _ (by simp[eO])])
 |succ n ih=>
  intro s hs;have hl:∀ (l:List SV),(∀ id,id∈l.flatMap (eO h n)->ae h id=ae h' id)->l.map (dl h n)=l.map (dl h' n):=fun l hl=>
   List.map_congr_left fun x hx=>ih x fun id hid=>hl id (pH hx hid)
  cases s with
  |ptr id off=>
   simp only[dl];rw[<-hs id (by simp[eO])];have hq:∀ ob,(∀ id,id∈BL (eO h n) ob->ae h id=ae h' id)->BK (dl h n) off ob=BK (dl h' n) off ob:=fun ob hq=>by
    cases ob with
    |cells l=>simp only[BK,hl l hq]
    |_=>rfl
   exact hq _ fun id' hid=>hs id' (by simp only[eO];exact List.mem_cons_of_mem _ hid)
  |ep l o=>simp only[dl,hl l hs]
  |ls l=>simp only[dl,hl l hs]
  |agg l=>simp only[dl,hl l hs]
  |tup l=>simp only[dl,hl l hs]
  |fn f l l2=>simp only[dl,hl l fun id hid=>hs id (by simp only[eO];exact List.mem_append_left _ hid),hl l2 fun id hid=>hs id (by simp only[eO];exact List.mem_append_right _ hid)]
  |_=>first|rfl|(simp only[dl];rw[hs _ (by simp[eO])])
theorem oV {f g:SV->List Nat}:∀ (l:List SV),(∀ x,x∈l->f x=g x)->l.flatMap f=l.flatMap g
 | [],_=>rfl
 |a::r,h=>by rw[List.flatMap_cons,List.flatMap_cons,h a (by simp),oV r fun x hx=>h x (by simp[hx])]
theorem DR {h h':List Ob}:∀ (n:Nat) (s:SV),(∀ id,id∈eO h n s->ae h id=ae h' id)->eO h n s=eO h' n s:=by
 intro n;induction n with
 |zero=>intro s hs;cases s <;>rfl
 |succ n ih=>
  intro s hs;have hl:∀ (l:List SV),(∀ id,id∈l.flatMap (eO h n)->ae h id=ae h' id)->l.flatMap (eO h n)=l.flatMap (eO h' n):=fun l hl=>
   oV l fun x hx=>ih x fun id hid=>hl id (pH hx hid)
  cases s with
  |ptr id off=>
   simp only[eO];rw[<-hs id (by simp[eO])];have hq:∀ ob,(∀ id,id∈BL (eO h n) ob->ae h id=ae h' id)->BL (eO h n) ob=BL (eO h' n) ob:=fun ob hq=>by
    cases ob with
    |cells l=>exact hl l hq
    |_=>rfl
   rw[hq _ fun id' hid=>hs id' (by simp only[eO];exact List.mem_cons_of_mem _ hid)]
  |ep l o=>simp only[eO];exact hl l hs
  |ls l=>simp only[eO];exact hl l hs
  |agg l=>simp only[eO];exact hl l hs
  |tup l=>simp only[eO];exact hl l hs
  |fn f l l2=>simp only[eO];rw[hl l fun id hid=>hs id (by simp only[eO];exact List.mem_append_left _ hid),hl l2 fun id hid=>hs id (by simp only[eO];exact List.mem_append_right _ hid)]
  |_=>rfl
theorem zR {G:Cons}{h h':List Ob}{nx:Nat}{r0:OR}{r:Dr}(hh:∀ id,id∈r.all->ae h id=ae h' id)(hr:ff G h nx r0=some r):ff G h' nx r0=some r:=by
 cases r0 with
 |call f args=>
  have hall:r.all=args.flatMap (eO h 6):=by
   simp only[ff]at hr;cases hc:G.p f (args.map (dl h 6))with
   |none=>rw[hc]at hr;cases hr
   |some c=>
    rw[hc]at hr;cases c with
    |rel=>cases hr
    |may=>cases hr
    |det p s=>
     simp only[drC]at hr;exact Gd hr
  have e:args.map (dl h 6)=args.map (dl h' 6):=List.map_congr_left fun x hx=>DQ 6 x fun id hid=>hh id (by rw[hall];exact pH hx hid);have e2:args.flatMap (eO h 6)=args.flatMap (eO h' 6):=oV args fun x hx=>DR 6 x fun id hid=>hh id (by rw[hall];exact pH hx hid);simp only[ff]at hr |-;rw[<-e,<-e2];exact hr
 |_=>exact hr
theorem I8 (o:Op)(x:List Nat×List Nat)(all:List Nat)(ups:List Up):(fpU o x all ups).rd=x.1/\(fpU o x all ups).wk=x.2/\(fpU o x all ups).all=all:=by
 unfold fpU;cases lh o <;>exact⟨rfl,rfl,rfl⟩
section
variable {P:Program}{F:Nat->Prop}{own own':Own}{w w':World}{ts:Tis}
variable {w0:Bs}{ro:Option Nat}{nd:Nat}{N n:Nat}{ops:List Oper}{st:St}{a:Act}{G:Cons}
variable {b m:Nat}{S:Nat->St}{s:Nat->SV}{ups:Nat->List Up}{fs:Nat->Fp}{R:Nat->Dr}{listed:Array Bool}
theorem DInv.op (hd:DOk ops)(hi:DInv F w0 N ops b m S s ups listed own st a w)(hp:Piece ts G ops b m S s ups fs R)(hseg:kM ops b ((List.range m).map fs)){k:Nat}{o:Oper}(hk:k<m)(ho:ops[b+k]? =some o)(hni:listed[b+k]? =some false)
  (hw:∀ j,jk o j=true->listed[j]? =some true) (hsk:(R k).ups=ups k):∃ nx,NxOk own st.h nx/\ff G st.h nx (opS ⟨ts,ops,o.guard,st,nx⟩ o.op)=some (R k):=by
 obtain⟨o',ho',f⟩:=hp.fact k hk;rw[ho]at ho';cases ho';have hget:∀ i,i<m->((List.range m).map fs)[i]? =some (fs i):=fun i hi=>by simp[hi]
 have hor:∀ j,j<m->j≠k->lj (fs k) (fs j)=true->(j<k/\listed[b+j]? =some true)\/(k<j/\¬listed[b+j]? =some true):=fun j hj hne hc=>
  hi.order ho hni hw hne (tw hseg (hget k hk) (hget j hj) (fun e=>hne e.symm) hc)
 obtain⟨e1,e2,e3⟩:=I8 o.op (fpO ⟨ts,ops,o.guard,S k,(S k).h.length⟩ o.op) (R k).all (ups k);rw[<-f.fp]at e1 e2 e3;have hop:opS ⟨ts,ops,o.guard,S k,(S k).h.length⟩ o.op=opS ⟨ts,ops,o.guard,st,(S k).h.length⟩ o.op:=
  Ce (t:=(S k).t) (h:=(S k).h) (t':=st.t) (h':=st.h) o.op (fun x hx=>by
    cases x with
    |tmp n=>exact hi.reads hd hp hk ho hni hw (DP hx)
    |_=>rfl)
   (fun id hid=>hi.obj hp hk hni fun j hj hne hm=>hor j hj hne (DN (by rw[e1];exact hid) (hp.touch hj hm)))
   (fun id hid=>hi.objUp hp hk hni fun j hj hne hm=>hor j hj hne (DO (by rw[e2];exact hid) hm))
 have hdr:=f.dr;have hdr2:ff G st.h (S k).h.length (opS ⟨ts,ops,o.guard,S k,(S k).h.length⟩ o.op)=some (R k):=zR (fun id hall=>hi.obj hp hk hni fun j hj hne hm=>hor j hj hne (Ch (by rw[e3];exact hall) (hp.touch hj hm))) hdr;by_cases hm:(S k).h.length∈c8 (R k).ups
 ·refine⟨(S k).h.length,?_,by rw[<-hop];exact hdr2⟩;have hmu:(S k).h.length∈c8 (ups k):=by rw[<-hsk];exact hm
  have hnk:¬listed[b+k]? =some true:=by rw[hni];simp
  refine⟨?_,?_⟩
  ·rcases hi.dom (S k).h.length with h|h| ⟨j,h1,h2,h3⟩
   ·exact h
   ·have:=hp.len (Nat.zero_le k) (by omega);omega
   ·exfalso;have hne:j≠k:=fun e=>hnk (e▸h2);rcases hor j h1 hne (ye (hp.touch hk hmu) (hp.touch h1 h3))with⟨hlt,_⟩ | ⟨_,hl⟩
    ·have:=hp.lt h1 h3;have:=hp.len (i:=j+1) (j:=k) (by omega) (by omega);omega
    ·exact hl h2
  ·obtain⟨p,h1,h2,h3⟩:=hi.heap (S k).h.length;rw[h3];refine g_ ?_;have:¬k<p:=fun h=>hnk ((h2 k hk hmu).2 h);exact hp.len (by omega) (by omega)
 ·refine⟨st.h.length,hi.inv.hp.nx,?_⟩;rw[I7 (nx':=st.h.length) hop.symm ?_]
  ·exact Ge hdr2 (.inl hm)
  ·intro c a ups' s' e hmm;rw[e]at hdr;simp only[ff,Option.some.injEq]at hdr;rw[<-hdr]at hm;exact hm hmm
theorem DInv.next (hd:DOk ops)(hi:DInv F w0 N ops b m S s ups listed own st a w)(hp:Piece ts G ops b m S s ups fs R)(hseg:kM ops b ((List.range m).map fs)){k:Nat}{o:Oper}(hk:k<m)(ho:ops[b+k]? =some o)(hni:listed[b+k]? =some false)
  (hw:∀ j,jk o j=true->listed[j]? =some true) {a':Act} (hinv:SInv F w0 N ops (fun j=>(listed.setIfInBounds (b+k) true)[j]? =some true) own' (St.put ⟨st.t,aD st.h (ups k)⟩ o.dst (s k)) a' w')
  (hfr:∀ id,own id=none->bZ (ae (aD st.h (ups k)) id)=true->own' id=none):
  DInv F w0 N ops b m S s ups (listed.setIfInBounds (b+k) true) own' (St.put ⟨st.t,aD st.h (ups k)⟩ o.dst (s k)) a' w':=by
 have hget:∀ i,i<m->((List.range m).map fs)[i]? =some (fs i):=fun i hi=>by simp[hi]
 have hor:∀ j,j<m->j≠k->lj (fs k) (fs j)=true->(j<k/\listed[b+j]? =some true)\/(k<j/\¬listed[b+j]? =some true):=fun j hj hne hc=>
  hi.order ho hni hw hne (tw hseg (hget k hk) (hget j hj) (fun e=>hne e.symm) hc)
 have hE:=yg hni;have hnk:¬listed[b+k]? =some true:=by rw[hni];simp
 refine⟨hinv,by simp[hi.size],fun j h1 h2=>(hE j).2 (.inl (hi.low j h1 h2)),fun j h1 h2=>?_,fun j q d h1 h2 h3 h4=>?_,fun t ht=>?_,fun i q j h1 h2 h3=>?_,fun id=>?_,fun id=>?_⟩
 ·rcases(hE j).1 h2 with h|h
  ·exact hi.high j h1 h
  ·omega
 ·rw[zQ];rcases(hE _).1 h2 with h|h
  ·have hne:o.dst≠some d:=fun e=>by
    have:=hd.uniq (b+k) (b+j) o q d ho h3 e h4;rw[<-this]at h;exact hnk h
   rw[if_neg hne];exact hi.put j q d h1 h h3 h4
  ·have:j=k:=by omega
   subst this;rw[ho]at h3;cases h3;rw[if_pos h4]
 ·have hne:o.dst≠some t:=ht k o hk ((hE _).2 (.inr rfl)) ho;rw[zQ,if_neg hne];exact hi.old t fun j q h1 h2 h3=>ht j q h1 ((hE _).2 (.inl h2)) h3
 ·rcases(hE i).1 h1 with h|rfl
  ·exact(hE j).2 (.inl (hi.closed i q j h h2 h3))
  ·rw[ho]at h2;cases h2;exact(hE j).2 (.inl (hw j h3))
 ·rw[H9];by_cases hm:id∈c8 (ups k)
  ·refine⟨k+1,by omega,fun j hj hmj=>?_,?_⟩
   ·rw[hE];by_cases e:j=k
    ·subst e;exact⟨fun _=>by omega,fun _=>.inr rfl⟩
    ·rcases hor j hj e (ye (hp.touch hk hm) (hp.touch hj hmj))with⟨h1,h2⟩ | ⟨h1,h2⟩
     ·exact⟨fun _=>by omega,fun _=>.inl h2⟩
     ·exact⟨fun h=>by
       rcases h with h|h
       ·exact absurd h h2
       ·omega,fun h=>by omega⟩
   ·rw[hp.hstep hk];exact vg hm
  ·obtain⟨p,h1,h2,h3⟩:=hi.heap id;refine⟨p,h1,fun j hj hmj=>?_,?_⟩
   ·have e:j≠k:=fun e=>hm (e▸hmj);rw[hE,h2 j hj hmj|>.symm];exact⟨fun h=>h.resolve_right (by omega),.inl⟩
   ·exact(iv hm).trans h3
 ·by_cases hno:own id=none
  ·by_cases hm:id∈c8 (ups k)
   ·exact .inr (.inr ⟨k,hk,(hE _).2 (.inr rfl),hm⟩)
   ·left;refine hfr id hno ?_;rw[iv hm];cases hdd:bZ (ae st.h id)with
    |true=>rfl
    |false=>obtain⟨hdx,e,_⟩:=hi.inv.hp.obs id hdd;rw[hno]at e;cases e
  ·rcases hi.dom id with h|h| ⟨j,h1,h2,h3⟩
   ·exact absurd h hno
   ·exact .inr (.inl h)
   ·exact .inr (.inr ⟨j,h1,(hE _).2 (.inl h2),h3⟩)
theorem Gf (hts:ts.ok P)(hG:ConsOk P G)(hr:ROk N ops)(hd:DOk ops){Q:Exit->Act->World->Prop}{K:St->Prop}{Z:Value->St->Prop}
  (hZ:∀ x own st a w,StRel F w0 N own st a w->Z x st->Q (.panic [{ v:=x,recovered:=false}]) a w)
  (hK:∀ own st a w,SInv F w0 N ops (· <ops.length) own st a w->K st->Q .normal a w):
  ∀ (fuel:Nat) (listed:Array Bool) (own:Own) (st:St) (a:Act) (w:World) (b m:Nat) (S:Nat->St) (s:Nat->SV) (ups:Nat->List Up) (fs:Nat->Fp) (R:Nat->Dr),
  DInv F w0 N ops b m S s ups listed own st a w->Piece ts G ops b m S s ups fs R->kM ops b ((List.range m).map fs)->Gc ts G ops K Z (b+m) (S m)->listed.toList.count false<=fuel->wpAnyIn (rd ro) nd P .any ops.toArray Q fuel listed a w:=by
 have hback:∀ (i:Nat) (o:Oper) (j:Nat),ops[i]? =some o->jk o j=true->j<i:=fun i o j ho hj=>by
  unfold jk at hj;rw[List.any_eq_true]at hj;obtain⟨e,he,hje⟩:=hj;simp only[Bool.and_eq_true]at hje;have:=hd.back i o e ho (by simpa using he) hje.2;rw[Nat.eq_of_beq_eq_true hje.1]at this;exact this
 have hdone:∀ (listed:Array Bool) (own:Own) (st:St) (a:Act) (w:World) (b m:Nat) (S:Nat->St) (s:Nat->SV) (ups:Nat->List Up) (fs:Nat->Fp) (R:Nat->Dr),
   DInv F w0 N ops b m S s ups listed own st a w->Piece ts G ops b m S s ups fs R->Gc ts G ops K Z (b+m) (S m)->(∀ k,k<ops.length->listed[k]? =some true)->Q .normal a w:=by
  intro listed own st a w b m S s ups fs R hi hp he hall;rcases he with⟨_,hk⟩ | ⟨o,ho,_⟩
  ·refine hK own (S m) a w ((hi.full hd hp fun k hk=>?_).congr fun k=>⟨fun h=>by have:=(Array.getElem?_eq_some_iff.1 h).1;rw[hi.size]at this;exact this,hall k⟩) hk;obtain⟨o,ho,_⟩:=hp.fact k hk;exact hall _ (List.getElem?_eq_some_iff.1 ho).1
  ·exact absurd (hall _ (List.getElem?_eq_some_iff.1 ho).1) (hi.high _ (Nat.le_refl _))
 have hready:∀ (listed:Array Bool),listed.size=ops.length->Region.ready .any ops.toArray listed=[]->∀ k,k<ops.length->listed[k]? =some true:=by
  intro listed hsz hnil k;induction k using Nat.strongRecOn with
  |_ k ih=>
   intro hk;have hlk:k<listed.size:=by rw[hsz];exact hk
   cases hb:listed[k]with
   |true=>simp[hlk,hb]
   |false=>
    exfalso;have:k∈Region.ready .any ops.toArray listed:=by
     rw[mem_ready];refine⟨by simp[Array.getD,hlk,hb],ops[k],by simp[hk],fun e he hbe=>?_⟩;have hlt:=hd.back k ops[k] e (List.getElem?_eq_getElem hk) he hbe;have:=ih e.on hlt (by omega);simp[Array.getD_eq_getD_getElem?,this]
    rw[hnil]at this;cases this
 intro fuel;induction fuel with
 |zero=>
  intro listed own st a w b m S s ups fs R hi hp hseg he hc;have hall:∀ k,k<ops.length->listed[k]? =some true:=by
   intro k hk;have hlk:k<listed.size:=by rw[hi.size];exact hk
   cases hb:listed[k]with
   |true=>simp[hlk,hb]
   |false=>
    exfalso;have:0<listed.toList.count false:=List.count_pos_iff.2 (by rw[<-hb];simp);omega
  refine⟨?_,hdone _ _ _ _ _ _ _ _ _ _ _ _ hi hp he hall⟩;cases hrd:Region.ready .any ops.toArray listed with
  |nil=>rfl
  |cons x xs=>
   exfalso;have hx:x∈Region.ready .any ops.toArray listed:=by rw[hrd];simp
   rw[mem_ready]at hx;obtain⟨h0,o,ho,_⟩:=hx;have h1:=pG h0;have h2:=hall x (by simpa using (Array.getElem?_eq_some_iff.1 ho).1);rw[h1]at h2;cases h2
 |succ fuel ih=>
  intro listed own st a w b m S s ups fs R hi hp hseg he hc;refine⟨fun hnil=>hdone _ _ _ _ _ _ _ _ _ _ _ _ hi hp he (hready _ hi.size hnil),fun i hmem=>?_⟩;rw[mem_ready]at hmem;obtain⟨h0,o,ho',hedge⟩:=hmem;have ho:ops[i]? =some o:=by simpa using ho'
  have hni:=pG h0;have hnk:¬listed[i]? =some true:=by rw[hni];simp
  have hil:i<ops.length:=(List.getElem?_eq_some_iff.1 ho).1;have hw:∀ j,jk o j=true->listed[j]? =some true:=by
   intro j hj;unfold jk at hj;rw[List.any_eq_true]at hj;obtain⟨e,he,hje⟩:=hj;simp only[Bool.and_eq_true]at hje;have:=hedge e (by simpa using he) hje.2;rw[Nat.eq_of_beq_eq_true hje.1]at this;exact yf this
  have hE:=yg hni;have hgE:∀ j b,o.guard=some (j,b)->listed[j]? =some true:=by
   intro j b hg;have hrf:h_ ops j:=⟨i,o,b,ho,hg⟩;obtain⟨q,d,h1,h2,h3⟩:=hr.uniq j hrf;have hlt:=hr.lt i o j b ho hg;have hm:d∈o.looksAt ops.toArray:=by
    unfold Oper.looksAt;rw[List.mem_append];right;simp[hg,h1,h2]
   rcases hd.look i j o q d ho h1 h2 hm with e| ⟨_,e⟩ | ⟨e,_⟩
   ·omega
   ·exact hw j e
   ·omega
  have hcnt:(listed.setIfInBounds i true).toList.count false<=fuel:=by
   rw[Array.toList_setIfInBounds];have:=vh listed.toList i (by simpa using hni);omega
  have hclS:sb ops (fun j=>listed[j]? =some true\/j=i):=fun j q j' hS hq hj'=>by
   rcases hS with hS|rfl
   ·exact .inl (hi.closed j q j' hS hq hj')
   ·rw[ho]at hq;cases hq;exact .inl (hw j' hj')
  have hib:b<=i:=Classical.byContradiction fun h=>hnk (hi.low i (by omega) hil);by_cases hlt:i<b+m
  ·
   obtain⟨k,rfl⟩:∃ k,i=b+k:=⟨i - b,by omega⟩;have hk:k<m:=by omega
   obtain⟨o',ho2,f⟩:=hp.fact k hk;rw[ho]at ho2;cases ho2;have hlk:∀ (j:Nat) (q:Oper) (d:Nat),j<b+k->listed[j]? =some true->h_ ops j->ops[j]? =some q->q.dst=some d->lk d (S k).t=lk d st.t:=fun j q d hj hEj hrf hq hqd=>by
    rcases hp.lk d k (by omega)with⟨j',q',h1,h2,h3,h4⟩ | ⟨h1,h2⟩
    ·have:=hd.uniq j (b+j') q q' d hq h2 hqd h3;subst this;rw[h4];exact(hi.put j' q d (by omega) hEj hq hqd).symm
    ·rw[h2];refine(hi.old d fun j' q' h3 h4 h5 h6=>?_).symm;have:=hd.uniq j (b+j') q q' d hq h5 hqd h6;subst this;exact h1 j' q (by omega) hq hqd
   unfold wpOpIn;rw[ho'];by_cases hgo:GOk ops a o.guard
   ·have hgP:∀ g,o.guard=some g->co ops (S k).t ops.length g:=fun g hg=>
     lR hi.inv (b+k) hlk hr.lt ops.length g (hr.lt _ o g.1 g.2 ho hg) (hgE g.1 g.2 hg) ⟨b+k,o,g.2,ho,hg⟩ (by rw[<-hg];exact hgo)
    have hu:ups k=(R k).ups:=by
     cases hg:o.guard with
     |none=>exact(f.plain hg).2.2
     |some g=>
      rcases(f.guarded g hg).2 with⟨e,_⟩ | ⟨_,_,e⟩
      ·exact e.symm
      ·exact absurd (hgP g hg) e
    obtain⟨nx,hnx,hdr⟩:=hi.op hd hp hseg hk ho hni hw hu.symm;have hwant:=(gI (ops:=ops) (a:=a) (o:=o)).2 hgo;simp only[hwant,if_true];have hrun:=A3 hts hi.inv hnx hgo (fun k' c e=>⟨hgE k' c e,b+k,o,c,ho,e⟩);have hc':(R k).c:=by
     cases hg:o.guard with
     |none=>exact(f.plain hg).1
     |some g=>exact(f.guarded g hg).1 (hgP g hg)
    have hnd:∀ c,o.op≠ .defer c:=qJ (cx:=⟨ts,ops,o.guard,st,nx⟩) (fun e=>by rw[e]at hdr;simp only[ff,Option.some.injEq]at hdr;rw[<-hdr]at hc';exact hc');obtain⟨_,_,hcont⟩:=H8 (ro:=ro) (nd:=nd) (a:=a) (o:=o) hG hi.inv.hp hnx hrun hdr hc';refine⟨fun _ _=>trivial,?_⟩;rw[Oper.semAt_eq _ _ _ hnd];refine hcont _ _ fun u own' w' hrel hst=>?_;have hstep:=hi.inv.stepe hr hE hnk ho hgE hgo hst.hp hst.fr hrel;rw[<-hu]at hstep;refine ih _ own' _ _ w' b m S s ups fs R (hi.next hd hp hseg hk ho hni hw ?_ (fun id e1 e2=>hst.fresh id e1 (by rw[<-hu];exact e2))) hp hseg he hcnt;cases hg:o.guard with
    |none=>rw[(f.plain hg).2.1];exact hstep.1
    |some g=>
     rcases(f.guarded g hg).2 with⟨_,e,_⟩ | ⟨_,_,e⟩
     ·rw[e];exact hstep.2 g hg
     ·exact absurd (hgP g hg) e
   ·have hwant:Region.wanted o (yielded ops.toArray a.tmps)=false:=by
     cases hb:Region.wanted o (yielded ops.toArray a.tmps)with
     |false=>rfl
     |true=>exact absurd (gI.1 hb) hgo
    simp only[hwant,Bool.false_eq_true,if_false];refine⟨fun _ _=>trivial,?_⟩;cases hg:o.guard with
    |none=>exact absurd (by rw[hg];trivial) hgo
    |some g=>
     have hgN:=tb hi.inv (b+k) hlk hr.lt ops.length g (hr.lt _ o g.1 g.2 ho hg) (hgE g.1 g.2 hg) ⟨b+k,o,g.2,ho,hg⟩ (by rw[<-hg];exact hgo);have hu:ups k=[]/\∃ x,s k=.gd g.1 g.2 x:=by
      rcases(f.guarded g hg).2 with⟨_,e,h0|h0⟩ | ⟨h0,e,_⟩
      ·exact⟨h0,_,e⟩
      ·exact absurd hgN h0
      ·exact⟨h0,_,e⟩
     obtain⟨hu,x,hs⟩:=hu;have hsk:=hi.inv.skip (s:=x) hr hE hnk ho hgE hgo hg;refine ih _ own _ _ w b m S s ups fs R (hi.next hd hp hseg hk ho hni hw ?_ (fun id e1 _=>e1)) hp hseg he hcnt;rw[hu,hs];exact hsk
  ·rcases he with⟨hle,_⟩ | ⟨q,hq,hcut,hx⟩
   ·omega
   ·by_cases hie:i=b+m
    ·subst hie;rw[ho]at hq;cases hq;have hall:∀ k,k<m->listed[b+k]? =some true:=fun k hk=>by
      obtain⟨ok,hok,_⟩:=hp.fact k hk;rcases tx hcut (List.getElem?_eq_some_iff.1 hok).1 (by omega)with⟨_,h⟩ | ⟨h,_⟩
      ·exact(wK hclS (.inr rfl) h).resolve_right (by omega)
      ·omega
     have hfull:=hi.full hd hp hall;have hset:∀ k,(listed.setIfInBounds (b+m) true)[k]? =some true↔k<b+m+1:=fun k=>by
      rw[hE];constructor
      ·rintro (h|h)
       ·exact Nat.lt_succ_of_lt (Classical.byContradiction fun hn=>hi.high k (by omega) h)
       ·omega
      ·intro h;by_cases e:k=b+m
       ·exact .inr e
       ·left;by_cases hkb:k<b
        ·exact hi.low k hkb (by omega)
        ·have:=hall (k - b) (by omega)
         rwa[show b+(k - b)=k by omega]at this
     obtain⟨k1,k2⟩:=AZ (ro:=ro) (nd:=nd) hts hG hr hE hnk ho hgE hfull hZ hx (K:=wpAnyIn (rd ro) nd P .any ops.toArray Q fuel (listed.setIfInBounds (b+m) true)) (fun own st a w hinv hx=>by
      have hinv':=hinv.congr hset;obtain⟨m',S',s',ups',fs',R',e0,e1,e2,e3⟩:=sim hts hG hr (ops.drop (b+m+1)) (b+m+1) own st a w (b+m+1) [] rfl hinv' hx;subst e0;exact ih _ own (S' 0) a w (b+m+1) m' S' s' ups' fs' R' (DInv.start hinv' (by simp[hi.size]) (fun k _=>hset k) hr hback) e1 (by simpa using e2) e3 hcnt)
     unfold wpOpIn;rw[ho'];by_cases hgo:GOk ops a o.guard
     ·obtain⟨hnd,k1⟩:=k1 hgo;simp only[(gI (ops:=ops) (a:=a) (o:=o)).2 hgo,if_true];refine⟨fun _ _=>trivial,?_⟩;rw[Oper.semAt_eq _ _ _ hnd];exact k1
     ·have hwant:Region.wanted o (yielded ops.toArray a.tmps)=false:=by
       cases hb:Region.wanted o (yielded ops.toArray a.tmps)with
       |false=>rfl
       |true=>exact absurd (gI.1 hb) hgo
      simp only[hwant,Bool.false_eq_true,if_false];exact⟨fun _ _=>trivial,k2 hgo⟩
    ·exfalso;rcases tx hcut hil hie with⟨h,_⟩ | ⟨_,h⟩
     ·omega
     ·exact hi.high _ (Nat.le_refl _) ((wK hclS (.inr rfl) h).resolve_right (by omega))
theorem Gg (hts:ts.ok P)(hG:ConsOk P G)(hr:ROk N ops)(hd:DOk ops){Q:Exit->Act->World->Prop}{K:St->Prop}{Z:Value->St->Prop}
  (hZ:∀ x own st a w,StRel F w0 N own st a w->Z x st->Q (.panic [{ v:=x,recovered:=false}]) a w)
  (hK:∀ own st a w,SInv F w0 N ops (· <ops.length) own st a w->K st->Q .normal a w) {own:Own} {st:St} {a:Act} {w:World} (hi:SInv F w0 N ops (· <0) own st a w) (hx:fh ts G ops K Z ops 0 0 [] st):
  wpAnyIn (rd ro) nd P .any ops.toArray Q ops.toArray.size (Array.replicate ops.toArray.size false) a w:=by
 obtain⟨m,S,s,ups,fs,R,e0,e1,e2,e3⟩:=sim hts hG hr ops 0 own st a w 0 [] rfl hi hx;subst e0;refine Gf hts hG hr hd hZ hK _ _ own (S 0) a w 0 m S s ups fs R (DInv.start hi (by simp) (fun k hk=>?_) hr fun i o j ho hj=>?_) e1 (by simpa using e2) e3 ?_
 ·simp[Array.getElem?_replicate]
 ·unfold jk at hj;rw[List.any_eq_true]at hj;obtain⟨e,he,hje⟩:=hj;simp only[Bool.and_eq_true]at hje;have:=hd.back i o e ho (by simpa using he) hje.2;rw[Nat.eq_of_beq_eq_true hje.1]at this;exact this
 ·simp
end
end Go.Sx
end
section
namespace Go.Sx
section
variable {F:Fence}{n:Nat}{P:Program}{b:Frame}{a:Act}{k:List Item}{cs:List Frame}{w:World}{Q:Exit->Act->World->Prop}
def noGo (Q:Exit->Act->World->Prop):Exit->Act->World->Prop
 | .goto _,_,_=>False
 |e,a,w=>Q e a w
theorem iE {c:Code}:step P (lone (b.atR a (.code (.scope c)::k)) cs w)=.next (lone (b.atR a (.code c:: .inScope c::k)) cs w):=
 step_lone_go (by simp[Go.stepG,Go.stepG.exec,Frame.atR])
theorem ut {c:Code}:step P (lone (b.atR a (.inScope c::k)) cs w)=.next (lone (b.atR a k) cs w):=
 step_lone_go (by simp[Go.stepG,Go.stepG.exec,Frame.atR])
theorem zS {c:Code}(h:c.wpIn F n P (noGo Q) a w):(Code.scope c).wpIn F n P Q a w:=by
 intro b k cs hro hb hr;have h0:(lone (b.atR a (.code (.scope c)::k)) cs w).fenced P F:=fenced_calm hb hr rfl;obtain⟨e,a₁,w₁,hq,harr⟩:=h b (.inScope c::k) cs hro hb hr;cases e with
 |normal=>exact⟨.normal,a₁,w₁,hq,.head h0 iE (StepsIn.trans harr (.one (fenced_calm hb hr rfl) ut))⟩
 |exit id=>exact⟨.exit id,a₁,w₁,hq,fun k' hk=>.head h0 iE (harr.1 k' (by simp[exitTo,hk])),fun hr' hk=>let ⟨k₁,h1,h2⟩:=harr.2 hr' (by simpa[exitTo]using hk);⟨k₁,h1,.head h0 iE h2⟩⟩
 |goto l=>exact hq.elim
 |ret=>exact⟨_,a₁,w₁,hq,.of_steps (.one h0 iE) harr⟩
 |panic ch=>exact⟨_,a₁,w₁,hq,.of_steps (.one h0 iE) harr⟩
 |outgrown=>exact⟨_,a₁,w₁,hq,.of_steps (.one h0 iE) harr⟩
end
open Go.RowKit
section
variable {P:Program}{F:Nat->Prop}{w0:Bs}{ro:Option Nat}{nd:Nat}{ts:Tis}{G:Cons}{L:mL}{N:Nat}
def tz (F:Nat->Prop)(w0:Bs)(N:Nat)(Q:Ex->St->Prop):Exit->Act->World->Prop
 | .normal,a,w=>∃ F1 own st,(∀ b,F b->F1 b)/\StRel F1 w0 N own st a w/\Q .normal st
 | .exit id,a,w=>∃ F1 own st,(∀ b,F b->F1 b)/\StRel F1 w0 N own st a w/\Q (.exit id) st
 | .ret,a,w=>∃ F1 own st,(∀ b,F b->F1 b)/\StRel F1 w0 N own st a w/\Q .ret st
 | .panic ch,a,w=>∃ x F1 own st,(∀ b,F b->F1 b)/\StRel F1 w0 N own st a w/\Q (.pan x) st/\ch=[{ v:=x,recovered:=false}]
 |_,_,_=>False
theorem Gh {F F2:Nat->Prop}{w0:Bs}{N:Nat}{Q:Ex->St->Prop}(h:∀ b,F b->F2 b):∀ e a w,tz F2 w0 N Q e a w->tz F w0 N Q e a w:=by
 intro e a w hq;cases e <;>first|exact hq.elim|(obtain⟨F1,own,st,h0,h1,h2⟩:=hq;exact⟨F1,own,st,fun b hb=>h0 b (h b hb),h1,h2⟩) |(obtain⟨x,F1,own,st,h0,h1,h2,h3⟩:=hq;exact⟨x,F1,own,st,fun b hb=>h0 b (h b hb),h1,h2,h3⟩)
def gT (P:Program)(ro:Option Nat)(N:Nat)(id:Nat)(c:Code)(C:St->Option LCon):Prop:=
 ∀ (nd:Nat) (F:Nat->Prop) (w0:Bs) st lc,C st=some lc->lc.pre->∀ own a w,StRel F w0 N own st a w->(Code.block id c).wpIn (rd ro) nd P (tz F w0 N fun e st'=>∃ r,lc.post r/\e=lc.ex r/\st'=lc.out r) a w
def ap (P:Program)(ro:Option Nat)(N:Nat)(L:mL):Code->Prop
 | .seq a b=>ap P ro N L a/\ap P ro N L b
 | .cond _ a b=>ap P ro N L a/\ap P ro N L b
 | .block id (.loop c) =>gT P ro N id (.loop c) (L id)
 | .block id (.rangeFunc f ps a b) =>gT P ro N id (.rangeFunc f ps a b) (L id)
 | .block _ c=>ap P ro N L c
 | .scope c=>ap P ro N L c
 |_=>True
theorem A4 (t:Nat){u:List (Nat×SV)}:∀ l:List (Nat×SV),subJ u l->lk t l=.any\/lk t l=lk t u
 | [],_=>.inl rfl
 |(n,s)::r,h=>by
  have ih:=A4 t r h.2;have e:lk t ((n,s)::r)=bif Nat.beq n t then s else lk t r:=rfl;rw[e];cases hb:Nat.beq n t with
  |false=>rw[cond_false];exact ih
  |true=>rw[cond_true,<-Nat.eq_of_beq_eq_true hb];exact .inr h.1.symm
theorem lU {Q Q':Ex->St->Prop}(h:∀ e st,Q e st->Q' e st):∀ e a w,tz F w0 N Q e a w->tz F w0 N Q' e a w:=by
 intro e a w hq;cases e <;>first|exact hq.elim|(obtain⟨F1,own,st,h0,h1,h2⟩:=hq;exact⟨F1,own,st,h0,h1,h _ _ h2⟩) |(obtain⟨x,F1,own,st,h0,h1,h2,h3⟩:=hq;exact⟨x,F1,own,st,h0,h1,h _ _ h2,h3⟩)
theorem tC (hm:P.follows .mixedOrders=true)(hts:ts.ok P)(hG:ConsOk P G){id:Nat}{ops:Array Oper}{d:Bool}(hc:ca N (.region id ops d)=true){st:St}{Q:Ex->St->Prop}(hx:ri ts G ops d st Q)
  {own:Own} {a:Act} {w:World} (hr:StRel F w0 N own st a w):(Code.region id ops d).wpIn (rd ro) nd P (tz F w0 N Q) a w:=by
 simp only[ca,Bool.and_eq_true]at hc;obtain⟨h1,h2⟩:=hc;have hrok:=DC h1;obtain⟨l⟩:=ops;cases d with
 |false=>
  have hx':eP ts G l l st (fun st'=>Q .normal (nf l st')) (fun x st'=>Q (.pan x) st'):=hx;refine wpIn_region_list ?_;exact zD hts hG hrok (fun x own st a w h1 h2=>⟨x,F,own,st,fun _ h=>h,h1,h2,rfl⟩) l 0 own st a w rfl (hr.start l fun k hk=>by omega) hx' fun own st a w hi hk=>⟨F,own,_,fun _ h=>h,StRel.finish hi,hk⟩
 |true=>
  have hx':fh ts G l (fun st'=>Q .normal (nf l st')) (fun x st'=>Q (.pan x) st') l 0 0 [] st:=hx;have hdok:=I6 (ops:=l) (by simpa using h2);refine wpIn_region_any hm ?_;exact Gg hts hG hrok hdok (fun x own st a w h1 h2=>⟨x,F,own,st,fun _ h=>h,h1,h2,rfl⟩) (fun own st a w hi hk=>⟨F,own,_,fun _ h=>h,StRel.finish hi,hk⟩) (hr.drew.start l fun k hk=>by omega) hx'
theorem StRel.subJ {own:Own}{st d:St}{a:Act}{w:World}(h1:StRel F w0 N own st a w)(h3:st.h=d.h)(h4:Sx.subJ st.t d.t):StRel F w0 N own d a w:=by
 refine⟨h1.size,h1.defers,h3▸h1.hp,h1.fr,fun t=>?_⟩;rcases A4 t _ h4 with e|e
 ·rw[e];exact .any _
 ·rw[e];exact h1.slots t
theorem Ci (hm:P.follows .mixedOrders=true)(hts:ts.ok P)(hG:ConsOk P G){id:Nat}{ops:Array Oper}{d:Bool}(hc:ca N (.region id ops d)=true){st:St}{Q:Ex->St->Prop}(hx:exec ts G L (.region id ops d) st Q)
  {own:Own} {a:Act} {w:World} (hr:StRel F w0 N own st a w):(Code.region id ops d).wpIn (rd ro) nd P (tz F w0 N Q) a w:=by
 have hx':sN (ri ts G ops d st) Q (L (id+2000000) st):=hx;cases hlc:L (id+2000000) st with
 |none=>rw[hlc]at hx';exact tC hm hts hG hc hx' hr
 |some lc=>
  rw[hlc]at hx';refine wpIn_mono (tC hm hts hG hc hx'.1 hr) fun e a' w' hq=>?_;cases e with
  |normal=>
   obtain⟨F1,own',st',h0,h1,r,h2,h3,h4⟩:=hq;exact⟨F1,own',_,h0,h1.subJ h3 h4,hx'.2 r h2⟩
  |exit id=>exact hq
  |ret=>exact hq
  |panic ch=>exact hq
  |_=>exact hq.elim
theorem kp (hm:P.follows .mixedOrders=true)(hts:ts.ok P)(hG:ConsOk P G):∀ (c:Code),ca N c=true->ap P ro N L c->∀ (F:Nat->Prop) (st:St) (Q:Ex->St->Prop),exec ts G L c st Q->
  ∀ own a w,StRel F w0 N own st a w->c.wpIn (rd ro) nd P (tz F w0 N Q) a w:=by
 intro c;induction c with
 |skip=>intro _ _ F st Q hx own a w hr;exact wpIn_skip ⟨F,own,st,fun _ h=>h,hr,hx⟩
 |region id ops d=>intro hc _ F st Q hx own a w hr;exact Ci hm hts hG hc hx hr
 |seq x y ih1 ih2=>
  intro hc hl F st Q hx own a w hr;simp only[ca,Bool.and_eq_true]at hc;refine wpIn_seq (wpIn_mono (ih1 hc.1 hl.1 F st _ hx own a w hr) ?_);intro e a' w' hq;cases e with
  |normal=>obtain⟨F1,own',st',h0,h1,h2⟩:=hq;exact wpIn_mono (ih2 hc.2 hl.2 F1 st' Q h2 own' a' w' h1) (Gh h0)
  |exit id=>exact hq
  |ret=>exact hq
  |panic ch=>exact hq
  |_=>exact hq.elim
 |cond c x y ih1 ih2=>
  intro hc hl F st Q hx own a w hr;simp only[ca,Bool.and_eq_true]at hc;have key:∀ Q:Ex->St->Prop,ou (exec ts G L x st Q) (exec ts G L y st Q) (raw st.t c)->(Code.cond c x y).wpIn (rd ro) nd P (tz F w0 N Q) a w:=by
   intro Q hx';cases c with
   |tmp n=>
    have hs:=hr.slots n;have hx2:ou (exec ts G L x st Q) (exec ts G L y st Q) (lk n st.t):=hx';unfold ou at hx2;split at hx2
    ·rename_i b hb;rw[hb]at hs;have he:a.eval (.tmp n)=.bool b:=bo hs;exact wpIn_cond_split he (fun h=>ih1 hc.1 hl.1 F st Q (hx2.1 h) own a w hr) (fun h=>ih2 hc.2 hl.2 F st Q (hx2.2 h) own a w hr)
    ·exact hx2.elim
   |const v=>
    have hx2:ou (exec ts G L x st Q) (exec ts G L y st Q) (.v v):=hx';unfold ou at hx2;split at hx2
    ·rename_i b hb;cases hb;exact wpIn_cond_split (t:=b) rfl (fun h=>ih1 hc.1 hl.1 F st Q (hx2.1 h) own a w hr) (fun h=>ih2 hc.2 hl.2 F st Q (hx2.2 h) own a w hr)
    ·exact hx2.elim
   |global g=>exact(hx':False).elim
   |func f=>exact(hx':False).elim
  have hx':sM (exec ts G L x st) (exec ts G L y st) Q (raw st.t c) (L (Dl c) st):=hx;cases hlc:L (Dl c) st with
  |none=>rw[hlc]at hx';exact key Q hx'
  |some lc=>
   rw[hlc]at hx';refine wpIn_mono (key _ hx'.1) fun e a' w' hq=>?_;cases e with
   |normal=>
    obtain⟨F1,own',st',h0,h1,r,h2,h3,h4⟩:=hq;exact⟨F1,own',_,h0,h1.subJ h3 h4,hx'.2 r h2⟩
   |exit id=>obtain⟨_,_,_,_,_,_,_,h⟩:=hq;exact h.elim
   |ret=>obtain⟨_,_,_,_,_,_,_,h⟩:=hq;exact h.elim
   |panic ch=>obtain⟨_,_,_,_,_,_,⟨_,_,h⟩,_⟩:=hq;exact h.elim
   |_=>exact hq.elim
 |block id c ih=>
  intro hc hl F st Q hx own a w hr;have key:(∀ b,c≠ .loop b)->(∀ f ps a b,c≠ .rangeFunc f ps a b)->(Code.block id c).wpIn (rd ro) nd P (tz F w0 N Q) a w:=by
   intro hne hne2;have hx':exec ts G L c st (Ex.block id Q):=by cases c <;>first|exact hx|exact absurd rfl (hne _) |exact absurd rfl (hne2 _ _ _ _)
   have hl':ap P ro N L c:=by cases c <;>first|exact hl|exact absurd rfl (hne _) |exact absurd rfl (hne2 _ _ _ _)
   refine wpIn_block (wpIn_mono (ih (by simpa[ca]using hc) hl' F st _ hx' own a w hr) ?_);intro e a' w' hq;cases e with
   |normal=>exact hq
   |ret=>exact hq
   |panic ch=>exact hq
   |exit j=>
    obtain⟨F1,own',st',h0,h1,h2⟩:=hq;have h2':(bif Nat.beq j id then Q .normal st' else Q (.exit j) st'):=h2;show if j=id then _ else _;by_cases hj:j=id
    ·subst hj;rw[if_pos rfl];simp only[Nat.beq_refl,cond_true]at h2';exact⟨F1,own',st',h0,h1,h2'⟩
    ·rw[if_neg hj];have:Nat.beq j id=false:=by cases hb:Nat.beq j id with
      |false=>rfl
      |true=>exact absurd (Nat.eq_of_beq_eq_true hb) hj
     rw[this]at h2';exact⟨F1,own',st',h0,h1,h2'⟩
   |_=>exact hq.elim
  cases c with
  |loop b=>
   have hx':kO Q (L id st):=hx;have hl':gT P ro N id (.loop b) (L id):=hl;cases hlc:L id st with
   |none=>rw[hlc]at hx';exact hx'.elim
   |some lc=>
    rw[hlc]at hx';refine wpIn_mono (hl' nd F w0 st lc hlc hx'.1 own a w hr) (lU fun e st'=>?_);rintro⟨r,h1,rfl,rfl⟩;exact hx'.2 r h1
  |rangeFunc f ps b1 b2=>
   have hx':kO Q (L id st):=hx;have hl':gT P ro N id (.rangeFunc f ps b1 b2) (L id):=hl;cases hlc:L id st with
   |none=>rw[hlc]at hx';exact hx'.elim
   |some lc=>
    rw[hlc]at hx';refine wpIn_mono (hl' nd F w0 st lc hlc hx'.1 own a w hr) (lU fun e st'=>?_);rintro⟨r,h1,rfl,rfl⟩;exact hx'.2 r h1
  |_=>exact key (fun b h=>by cases h) (fun _ _ _ _ h=>by cases h)
 |exit id=>intro _ _ F st Q hx own a w hr;exact wpIn_exit ⟨F,own,st,fun _ h=>h,hr,hx⟩
 |ret=>intro _ _ F st Q hx own a w hr;exact wpIn_ret ⟨F,own,st,fun _ h=>h,hr,hx⟩
 |scope c ih=>intro hc hl F st Q hx own a w hr;exact zS (wpIn_mono (ih hc hl F st Q hx own a w hr) fun e a w h=>by cases e <;>first|exact h|exact h.elim)
 |label l=>intro _ _ F st Q hx own a w hr;exact wpIn_label ⟨F,own,st,fun _ h=>h,hr,hx⟩
 |_=>intro _ _ F st Q hx;exact(hx:False).elim
end
end Go.Sx
end
section
namespace Go.Sx
open Go.RowKit
section
variable {P:Program}{F:Nat->Prop}{own own2:Own}{w:World}{w0:Bs}{ro:Option Nat}{nd:Nat}{ts:Tis}{G:Cons}{L:mL}{N:Nat}
structure Un (m:Nat->Option Nat)(n:Nat)(own own2:Own):Prop where
 ids:∀ k,k<n->∀ hd,(m k).bind own=some hd->∃ hd',own2 k=some hd'/\hd.like hd'
theorem H_ {m:Nat->Option Nat}{n:Nat}(hm:Un m n own own2)(hk:∀ k,k<n->(m k).isSome=true)(ho:∀ b,¬bD F own b->¬bD F own2 b):∀ (f:Nat) (s:SV) (v:Value),gQ f n s=true->Rel F own w (ren m f s) v->Rel F own2 w s v:=by
 have base:∀ (f:Nat) (s:SV) (v:Value),gQ f n s=true->Rel F own w (ren m f s) v->(∀ l o,s≠ .ep l o)->(∀ l,s≠ .ls l)->(∀ l,s≠ .agg l)->(∀ l,s≠ .tup l)->(∀ f l l2,s≠ .fn f l l2)->Rel F own2 w s v:=by
  intro f s v hi hr n1 n2 n3 n4 n5;have hlt:∀ {id},Nat.blt id n=true->∃ j,m id=some j/\id<n:=fun {id} h=>by
   have hl:id<n:=nbl h;have:=hk id hl;cases hm':m id with
   |none=>rw[hm']at this;cases this
   |some j=>exact⟨j,rfl,hl⟩
  cases s with
  |any=>exact .any _
  |v x=>cases f <;>(have hr':Rel F own w (.v x) v:=hr) <;>rw[bo hr'] <;>exact .v _
  |e0=>cases f <;>(have hr':Rel F own w .e0 v:=hr) <;>cases hr' <;>exact .e0
  |rs k l=>cases f <;>(have hr':Rel F own w (.rs k l) v:=hr) <;>exact hr'.over (.rs) ho
  |rc k l=>cases f <;>(have hr':Rel F own w (.rc k l) v:=hr) <;>exact hr'.over (.rc) ho
  |rm k k2 l=>cases f <;>(have hr':Rel F own w (.rm k k2 l) v:=hr) <;>exact hr'.over (.rm) ho
  |ptr id off=>
   have hb:Nat.blt id n=true:=by cases f <;>exact hi
   obtain⟨j,e,hl⟩:=hlt hb;have hr':Rel F own w (.ptr j off) v:=by cases f <;>(simp only[ren,e,pg]at hr;exact hr)
   cases hr' with
   |ptr h1 h2=>
    obtain⟨hd',q1,q2⟩:=hm.ids id hl _ (by rw[e];exact h1);exact .ptr q1 (by rw[q2.1];exact h2)
  |os id=>
   have hb:Nat.blt id n=true:=by cases f <;>exact hi
   obtain⟨j,e,hl⟩:=hlt hb;have hr':Rel F own w (.os j) v:=by cases f <;>(simp only[ren,e,pg]at hr;exact hr)
   cases hr' with
   |os h1 h2=>
    obtain⟨hd',q1,q2⟩:=hm.ids id hl _ (by rw[e];exact h1);rw[<-q2.2.1];exact .os q1 (by rw[q2.2.1];exact h2)
  |rp sz id i off=>
   have hb:Nat.blt id n=true:=by cases f <;>exact hi
   obtain⟨j,e,hl⟩:=hlt hb;have hr':Rel F own w (.rp sz j i off) v:=by cases f <;>(simp only[ren,e,pg]at hr;exact hr)
   cases hr' with
   |rp h1 h2 h3=>
    obtain⟨hd',q1,q2⟩:=hm.ids id hl _ (by rw[e];exact h1);exact .rp q1 (by rw[q2.2.1];exact h2) h3
  |vw sz id lo hh=>
   have hb:Nat.blt id n=true:=by cases f <;>exact hi
   obtain⟨j,e,hl⟩:=hlt hb;have hr':Rel F own w (.vw sz j lo hh) v:=by cases f <;>(simp only[ren,e,pg]at hr;exact hr)
   cases hr' with
   |vw h1 h2 h3=>
    obtain⟨hd',q1,q2⟩:=hm.ids id hl _ (by rw[e];exact h1);exact .vw q1 (by rw[q2.2.1];exact h2) h3
  |gr id i=>
   have hb:Nat.blt id n=true:=by cases f <;>exact hi
   obtain⟨j,e,hl⟩:=hlt hb;have hr':Rel F own w (.gr j i) v:=by cases f <;>(simp only[ren,e,pg]at hr;exact hr)
   cases hr' with
   |gr h1 h2 h3=>
    obtain⟨hd',q1,q2⟩:=hm.ids id hl _ (by rw[e];exact h1);exact .gr q1 (by rw[q2.2.2];exact h2) h3
  |gp sz id i i2 off=>
   have hb:Nat.blt id n=true:=by cases f <;>exact hi
   obtain⟨j,e,hl⟩:=hlt hb;have hr':Rel F own w (.gp sz j i i2 off) v:=by cases f <;>(simp only[ren,e,pg]at hr;exact hr)
   cases hr' with
   |gp h1 h2 h3=>
    obtain⟨hd',q1,q2⟩:=hm.ids id hl _ (by rw[e];exact h1);exact .gp q1 (by rw[q2.2.2];exact h2) h3
  |ep l o=>exact absurd rfl (n1 l o)
  |ls l=>exact absurd rfl (n2 l)
  |agg l=>exact absurd rfl (n3 l)
  |tup l=>exact absurd rfl (n4 l)
  |fn f l l2=>exact absurd rfl (n5 f l l2)
  |_=>cases f <;>simp[gQ]at hi
 intro f;induction f with
 |zero=>
  intro s v hi hr;refine base 0 s v hi hr ?_ ?_ ?_ ?_ ?_ <;>intros <;>(intro e;subst e;simp[gQ]at hi)
 |succ f ih=>
  intro s v hi hr;cases s with
  |ep l o=>
   simp only[gQ,List.all_eq_true]at hi;simp only[ren]at hr;cases hr with
   |ep c h1 h2=>
    have hg:∀ (j:Nat) (s:SV),l[j]? =some s->(l.map (ren m f))[j]? =some (ren m f s):=fun j s hj=>by simp[hj]
    exact .ep c (fun j s hj=>⟨ho _ (h1 j _ (hg j s hj)).1,(h1 j _ (hg j s hj)).2⟩) fun j s hj=>ih s _ (hi s (List.mem_of_getElem? hj)) (h2 j _ (hg j s hj))
  |ls l=>
   simp only[gQ,List.all_eq_true]at hi;simp only[ren]at hr;generalize hq:l.map (ren m f)=l' at hr;cases hr with
   |ls c h0 h1 h2=>
    subst hq;have hg:∀ (j:Nat) (s:SV),l[j]? =some s->(l.map (ren m f))[j]? =some (ren m f s):=fun j s hj=>by simp[hj]
    rw[List.length_map]at h0 |-;exact .ls c h0 (fun j s hj=>⟨ho _ (h1 j _ (hg j s hj)).1,(h1 j _ (hg j s hj)).2⟩) fun j s hj=>ih s _ (hi s (List.mem_of_getElem? hj)) (h2 j _ (hg j s hj))
  |agg l=>
   simp only[gQ,List.all_eq_true]at hi;simp only[ren]at hr;cases hr with
   |agg h0 h1=>exact .agg (by simpa using h0) fun j s hj=>ih s _ (hi s (List.mem_of_getElem? hj)) (h1 j _ (by simp[hj]))
  |tup l=>
   simp only[gQ,List.all_eq_true]at hi;simp only[ren]at hr;cases hr with
   |tup h0 h1=>exact .tup (by simpa using h0) fun j s hj=>ih s _ (hi s (List.mem_of_getElem? hj)) (h1 j _ (by simp[hj]))
  |fn g l l2=>
   simp only[gQ,Bool.and_eq_true,List.all_eq_true]at hi;simp only[ren]at hr;cases hr with
   |fn h0 h0' h1 h2=>exact .fn (by simpa using h0) (by simpa using h0') (fun j s hj=>ih s _ (hi.1 s (List.mem_of_getElem? hj)) (h1 j _ (by simp[hj]))) fun j s hj=>ih s _ (hi.2 s (List.mem_of_getElem? hj)) (h2 j _ (by simp[hj]))
  |_=>refine base (f+1) _ v hi hr ?_ ?_ ?_ ?_ ?_ <;>intros <;>(intro e;cases e)
theorem A5:∀ a l:List SV,(wkL a l).length=l.length
 | [],[] =>rfl
 | [],_::_=>rfl
 |_::_,[] =>rfl
 |_::r,_::s=>by simp[wkL,A5 r s]
theorem A6:∀ (a l:List SV) (j:Nat) (s:SV),(wkL a l)[j]? =some s->s=.any\/l[j]? =some s
 | [],l,j,s,h=>.inr (by cases l <;>exact h)
 |_::_,[],j,s,h=>.inr h
 |a::r,x::l,0,s,h=>by
  cases ha:xH a with
  |true=>simp[wkL,ha]at h;exact .inl h.symm
  |false=>simp[wkL,ha]at h;exact .inr (by simp[h])
 |a::r,x::l,j+1,s,h=>by
  have h:(wkL r l)[j]? =some s:=by simpa[wkL]using h
  rcases A6 r l j s h with h|h
  ·exact .inl h
  ·exact .inr (by simpa using h)
theorem yh:∀ l:List SV,wkL l l=l
 | [] =>rfl
 |x::l=>by
  have:(bif xH x then SV.any else x)=x:=by cases x <;>rfl
  simp[wkL,this,yh l]
attribute [go_sem] yh
theorem Cj (a o:Ob):bZ (sO a o)=bZ o:=by
 unfold sO;split <;>rfl
theorem DS (a:Ob){hd:Hd}{o:Ob}(h:ObRel F own w hd o):ObRel F own w hd (sO a o):=by
 unfold sO;split
 ·rename_i kk vk l p;obtain⟨b,es,clk,h1,h2,h3,h4,h5,h6⟩:=h;match p,h4,h6 with
  |none,h4,h6=>exact⟨b,es,clk,h1,h2,h3,h4,h5,h6⟩
  |some (i,none),h4,h6=>exact⟨b,es,clk,h1,h2,h3,h4,h5,trivial⟩
  |some (i,some x),h4,h6=>exact⟨b,es,clk,h1,h2,h3,h4,h5,h6⟩
 ·rename_i a l;obtain⟨b,cs,ty,h1,h2,h3,h4,h5⟩:=h;exact⟨b,cs,ty,h1,h2,h3,by rw[A5];exact h4,fun j s hj=>by
   rcases A6 a l j s hj with rfl|hj
   ·exact .any _
   ·exact h5 j s hj⟩
 ·exact h
theorem I9 {m:Nat->Option Nat}{n:Nat}(hm:Un m n own own2)(hk:∀ k,k<n->(m k).isSome=true)(ho:∀ b,¬bD F own b->¬bD F own2 b){hd:Hd}{o:Ob}(hi:mM n o=true)(h:ObRel F own w hd (mr m o)):ObRel F own2 w hd o:=by
 cases o with
 |cells l=>
  simp only[mM,List.all_eq_true]at hi;obtain⟨b,cs,ty,h1,h2,h3,h4,h5⟩:=h;exact⟨b,cs,ty,h1,h2,h3,by simpa using h4,fun j s hj=>H_ hm hk ho 3 s _ (hi s (List.mem_of_getElem? hj)) (h5 j _ (by simp[hj]))⟩
 |dead=>trivial
 |row k l=>exact RowRel.over h (.inl ho)
 |fz k l=>exact Rel.over h .rs ho
 |mp kk vk l pend=>
  have key:∀ q,ObRel F own w hd (.mp kk vk l q)->(∃ b es clk,hd.v=.map (some b)/\hd.bs=[b]/\w.heap[b]? =some (.map es clk)/\MpAt F own2 w kk vk (ct kk vk l q) es/\Stamped es clk/\PendOk own kk vk l es clk q):=fun q h=>by
   obtain⟨b,es,clk,h1,h2,h3,h4,h5,h6⟩:=h;exact⟨b,es,clk,h1,h2,h3,⟨h4.1,fun i x hi=>by
    obtain⟨e,e1,e2,e3,e4⟩:=h4.2 i x hi;exact⟨e,e1,e2,e3.over (lE _ _) ho,e4.over (lE _ _) ho⟩⟩,h5,h6⟩
  match pend,hi,h with
  |none,_,h=>obtain⟨b,es,clk,h1,h2,h3,h4,h5,h6⟩:=key _ h;exact⟨b,es,clk,h1,h2,h3,h4,h5,trivial⟩
  |some (i,q),hi,h=>
   have hlt:i<n:=by simpa[mM,Nat.blt_eq]using hi
   have hs:=hk i hlt;change ObRel F own w hd (zf kk vk l q (m i))at h;cases hmi:m i with
   |none=>rw[hmi]at hs;cases hs
   |some j=>
    rw[hmi]at h;change ObRel F own w hd (zf kk vk l q (some j))at h;have h':ObRel F own w hd (.mp kk vk l (some (j,q))):=by cases q <;>exact h
    obtain⟨b,es,clk,h1,h2,h3,h4,h5,h6⟩:=key _ h';cases q with
    |none=>
     obtain⟨hd2,t1,t2⟩:=h6;obtain⟨hd',e1,e2⟩:=hm.ids i hlt hd2 (by rw[hmi];exact t1);exact⟨b,es,clk,h1,h2,h3,h4,h5,hd',e1,e2.2.2.trans t2⟩
    |some x=>
     obtain⟨hd2,e,t1,t2,t3⟩:=h6;obtain⟨hd',e1,e2⟩:=hm.ids i hlt hd2 (by rw[hmi];exact t1);exact⟨b,es,clk,h1,h2,h3,h4,h5,hd',e,e1,t2,e2.2.1.trans t3⟩
 |grid k l=>
  rcases h with h| ⟨b,o,cap,cs,ty,bs,h1,h2,h3,h4,h5,h6,h7,h8,h9⟩
  ·exact .inl h
  ·exact .inr ⟨b,o,cap,cs,ty,bs,h1,h2,h3,h4,h5,h6,h7,h8,h9.over (.inl ho)⟩
 |ab r=>
  refine⟨h.1,r.loc _ _ _ w w h.2 (Nat.le_refl _) (fun b hbl hn=>rfl) (fun b hbl hn=>⟨Classical.byContradiction fun hc=>ho b hc hn.1,hn.2⟩)⟩
 |raw o=>exact h
 |mi mid n0 left cur=>
  obtain⟨b,h1,h2,h3⟩:=h;refine⟨b,h1,h2,fun i hj=>?_⟩;subst hj;simp only[mM]at hi;have hlt:i<n:=by simpa[Nat.blt_eq]using hi
  have hs:=hk i hlt;cases hmi:m i with
  |none=>rw[hmi]at hs;cases hs
  |some j=>
   obtain⟨hdm,bm,seen,c0,ss,k1,k2,k3,k4⟩:=h3 j (by simp[hmi]);obtain⟨hd',e1,e2⟩:=hm.ids i hlt hdm (by rw[hmi];exact k1);exact⟨hd',bm,seen,c0,ss,e1,e2.2.1.trans k2,k3,k4⟩
 |fwd n0=>
  intro i hj;subst hj;simp only[mM]at hi;have hlt:i<n:=by simpa[Nat.blt_eq]using hi
  have hs:=hk i hlt;cases hmi:m i with
  |none=>rw[hmi]at hs;cases hs
  |some j=>
   obtain⟨hdm,k1,k2,k3⟩:=h j (by simp[hmi]);obtain⟨hd',e1,e2⟩:=hm.ids i hlt hdm (by rw[hmi];exact k1);exact⟨hd',e1,e2.2.1.trans k2,k3⟩
theorem sd {m:Nat->Option Nat}{t:List (Nat×SV)}{n:Nat}(i:Nat):∀ t2,BQ m n t t2->lk i t2=.any\/(lk i t=ren m 5 (lk i t2)/\gQ 5 n (lk i t2)=true)
 | [],_=>.inl rfl
 |(j,s)::r,h=>by
  obtain⟨⟨h1,h2⟩,h3⟩:=h;rw[jo];by_cases hj:j=i
  ·subst hj;rw[if_pos rfl];exact .inr ⟨h1,h2⟩
  ·rw[if_neg hj];exact sd i r h3
theorem yi {m:Nat->Option Nat}{n:Nat}{h:List Ob}:∀ (js:List Nat) (h2:List Ob),un m n h js h2->js.length=h2.length/\∀ (i j:Nat),js[i]? =some j->wh m n h j (ae h2 i)
 | [],[],_=>⟨rfl,fun i j hj=>by simp at hj⟩
 | [],_::_,hs=>hs.elim
 |_::_,[],hs=>hs.elim
 |j::js,o::r,hs=>by
  obtain⟨q1,q2⟩:=yi js r hs.2;refine⟨by simp[q1],fun i j' hj=>?_⟩;cases i with
  |zero=>simp at hj;subst hj;exact hs.1
  |succ i=>exact q2 i j' (by simpa using hj)
theorem nz:∀ (js:List Nat) (h:List Ob) (i j:Nat),js[i]? =some j->bZ (ae h i)=false->j∈gF js h
 | [],h,i,j,hj,_=>by simp at hj
 |j0::js,[],i,j,_,hl=>by simp[ae,bZ]at hl
 |j0::js,o::r,0,j,hj,hl=>by
  simp at hj;subst hj;simp only[ae]at hl;simp only[gF,hl,cond_false];simp
 |j0::js,o::r,i+1,j,hj,hl=>by
  have:=nz js r i j (by simpa using hj) (by simpa[ae]using hl);simp only[gF];cases bZ o
  ·exact List.mem_cons_of_mem _ this
  ·exact this
theorem vj:∀ (js:List Nat) (h:List Ob) (i i2 j:Nat),uniq (gF js h)=true->js[i]? =some j->js[i2]? =some j->bZ (ae h i)=false->bZ (ae h i2)=false->i=i2
 | [],h,i,i2,j,_,hj,_,_,_=>by simp at hj
 |j0::js,[],i,i2,j,_,_,_,hl,_=>by simp[ae,bZ]at hl
 |j0::js,o::r,i,i2,j,hu,h1,h2,l1,l2=>by
  have hu2:uniq (gF js r)=true:=by
   simp only[gF]at hu;cases hd:bZ o <;>rw[hd]at hu
   ·simp only[cond_false,uniq,Bool.and_eq_true]at hu;exact hu.2
   ·exact hu
  have hno:bZ o=false->j0 ∉ gF js r:=fun hd=>by
   simp only[gF,hd,cond_false,uniq,Bool.and_eq_true]at hu;intro hm;rw[(ny j0 _).2 hm]at hu;simp at hu
  cases i with
  |zero=>
   simp at h1;subst h1;cases i2 with
   |zero=>rfl
   |succ i2=>exact absurd (nz js r i2 j0 (by simpa using h2) (by simpa[ae]using l2)) (hno (by simpa[ae]using l1))
  |succ i=>
   cases i2 with
   |zero=>simp at h2;subst h2;exact absurd (nz js r i j0 (by simpa using h1) (by simpa[ae]using l1)) (hno (by simpa[ae]using l2))
   |succ i2=>rw[vj js r i i2 j hu2 (by simpa using h1) (by simpa using h2) (by simpa[ae]using l1) (by simpa[ae]using l2)]
theorem tD:∀ (js:List Nat) (i n:Nat),qA i js n=true->∀ k j,js[k]? =some j->i+k<n->j=i+k
 | [],i,n,_,k,j,hj,_=>by simp at hj
 |j0::js,i,n,h,k,j,hj,hlt=>by
  simp only[qA,Bool.and_eq_true,Bool.or_eq_true]at h;cases k with
  |zero=>
   simp at hj;subst hj;rcases h.1 with h1|h1
   ·exact(Nat.eq_of_beq_eq_true h1).symm
   ·have:=nbl h1;omega
  |succ k=>
   have:=tD js (i+1) n h.2 k j (by simpa using hj) (by omega);omega
def ev (js:List Nat)(h2:List Ob)(own:Own):Own:=fun k=>if k<h2.length then((js[k]?).bind own).map (fun hd=>if bZ (ae h2 k)then { hd with bs:=[]}else hd)else none
theorem eQ {js:List Nat}{h2:List Ob}{k:Nat}{hd:Hd}(h:ev js h2 own k=some hd):k<h2.length/\∃ j hd0,js[k]? =some j/\own j=some hd0/\hd0.like hd/\(∀ b∈hd.bs,bZ (ae h2 k)=false/\hd=hd0):=by
 unfold ev at h;split at h
 ·rename_i hlt;rw[Option.map_eq_some_iff]at h;obtain⟨hd0,h1,h2'⟩:=h;rw[Option.bind_eq_some_iff]at h1;obtain⟨j,e1,e2⟩:=h1;refine⟨hlt,j,hd0,e1,e2,?_,?_⟩
  ·split at h2' <;>subst h2' <;>exact⟨rfl,rfl,rfl⟩
  ·intro b hb;split at h2'
   ·subst h2';cases hb
   ·rename_i hdd;subst h2';exact⟨by simpa using hdd,rfl⟩
 ·cases h
theorem DT {js:List Nat}{h2:List Ob}{b:Nat}(hb:¬bD F own b):¬bD F (ev js h2 own) b:=by
 rintro (hf| ⟨k,hd,e,hm⟩)
 ·exact hb (.inl hf)
 ·obtain⟨_,j,hd0,_,e2,_,e4⟩:=eQ e;obtain⟨_,rfl⟩:=e4 b hm;exact hb (.inr ⟨j,hd,e2,hm⟩)
theorem zT {js:List Nat}{n0:Nat}{st st2:St}(hs:Sub js n0 st st2)(hp:Hp F own w st.h)(hle:n0<=st2.h.length):
  Hp F (ev js st2.h own) w st2.h/\(∀ F b,¬bD F own b->¬bD F (ev js st2.h own) b)/\(∀ (F:Nat->Prop) (f:Nat) (s:SV) (v:Value),gQ f st2.h.length s=true->Rel F own w (ren (rQ js) f s) v->Rel F (ev js st2.h own) w s v)/\∀ id hd,id<n0->own id=some hd->∃ hd',ev js st2.h own id=some hd'/\hd.like hd':=by
 obtain⟨⟨hu,hk,hlt⟩,_,hh⟩:=hs;obtain⟨hlen,hob⟩:=yi js st2.h hh;have hjs:∀ k,k<st2.h.length->(rQ js k).isSome=true:=fun k hkl=>by
  show(nth js k).isSome=true;rw[dx];simp;omega
 have hun:Un (rQ js) st2.h.length own (ev js st2.h own):=⟨fun k hkl hd e=>by
  have e':(js[k]?).bind own=some hd:=by rw[<-dx];exact e
  refine⟨if bZ (ae st2.h k)then { hd with bs:=[]}else hd,?_,?_⟩
  ·unfold ev;rw[if_pos hkl,e'];rfl
  ·split <;>exact⟨rfl,rfl,rfl⟩⟩
 have hown:∀ (F:Nat->Prop) b,¬bD F own b->¬bD F (ev js st2.h own) b:=fun F b hb=>DT hb;refine⟨⟨fun id hd e=>(eQ e).1,hp.foreign,fun id hd b e hb=>?_,fun i j hi hj b e1 e2 hb1 hb2=>?_,fun id hd b e hb=>?_,fun id hdd=>?_⟩,hown,fun F f s v=>H_ hun hjs (hown F) f s v,fun id hd hid e=>?_⟩
 ·obtain⟨_,j,hd0,_,e2,_,e4⟩:=eQ e;obtain⟨_,rfl⟩:=e4 b hb;exact hp.apart j hd b e2 hb
 ·obtain⟨_,j1,hd1,p1,p2,_,p4⟩:=eQ e1;obtain⟨_,j2,hd2,q1,q2,_,q4⟩:=eQ e2;obtain⟨l1,rfl⟩:=p4 b hb1;obtain⟨l2,rfl⟩:=q4 b hb2;have:=hp.inj j1 j2 hi hj b p2 q2 hb1 hb2;subst this;exact vj js st2.h i j j1 hu p1 q1 l1 l2
 ·obtain⟨_,j,hd0,_,e2,_,e4⟩:=eQ e;obtain⟨_,rfl⟩:=e4 b hb;exact hp.lt j hd b e2 hb
 ·have hidl:id<st2.h.length:=by
   rcases Nat.lt_or_ge id st2.h.length with h|h
   ·exact h
   ·rw[g_ h]at hdd;cases hdd
  have hj:∃ j,js[id]? =some j:=⟨js[id]'(by omega),by simp⟩;obtain⟨j,hj⟩:=hj;have ho:=hob id j hj;unfold wh at ho;rw[hdd]at ho;simp only[cond_false]at ho;obtain⟨ho1,ho2⟩:=ho;have hd1:bZ (ae st.h j)=false:=by rw[<-Cj (ae st2.h id),ho1,mz];exact hdd
  obtain⟨hd,e1,e2⟩:=hp.obs j hd1
  replace e2:=DS (ae st2.h id) e2
  refine⟨hd,?_,?_⟩
  ·unfold ev;rw[if_pos hidl,hj];simp[e1,hdd]
  ·rw[ho1]at e2;exact I9 hun hjs (hown F) ho2 e2
 ·have hjid:js[id]? =some id:=by
   have hj:∃ j,js[id]? =some j:=⟨js[id]'(by omega),by simp⟩;obtain⟨j,hj⟩:=hj;have:=tD js 0 n0 hk id j hj (by omega);rw[Nat.zero_add]at this;rw[hj,this]
  refine⟨if bZ (ae st2.h id)then { hd with bs:=[]}else hd,?_,?_⟩
  ·unfold ev;rw[if_pos (by omega),hjid];simp[e]
  ·split <;>exact⟨rfl,rfl,rfl⟩
theorem wM {js:List Nat}{n0:Nat}{st st2:St}(hs:Sub js n0 st st2)(hp:Hp F own w st.h)(hfr:Fr w0 own w)(hn:∀ id hd,w0.own id=some hd->id<n0)(hle:n0<=st2.h.length):
  Hp F (ev js st2.h own) w st2.h/\Fr w0 (ev js st2.h own) w/\(∀ b,¬bD F own b->¬bD F (ev js st2.h own) b)/\∀ (f:Nat) (s:SV) (v:Value),gQ f st2.h.length s=true->Rel F own w (ren (rQ js) f s) v->Rel F (ev js st2.h own) w s v:=by
 obtain⟨q1,q2,q3,q4⟩:=zT hs hp hle;refine⟨q1,⟨fun id hd e=>?_,fun id hd b e hb=>?_,hfr.os,hfr.tape,hfr.output,hfr.size,hfr.block⟩,q2 F,q3 F⟩
 ·obtain⟨hd1,e1,l1⟩:=hfr.ids id hd e;obtain⟨hd2,e2,l2⟩:=q4 id hd1 (hn id hd e) e1;exact⟨hd2,e2,l1.trans l2⟩
 ·obtain⟨_,j,hd0,_,e2,_,e4⟩:=eQ e;obtain⟨_,rfl⟩:=e4 b hb;exact hfr.base j hd b e2 hb
theorem StRel.sub {st st2:St}{a:Act}{w:World}(h:StRel F w0 N own st a w){js:List Nat}{n0:Nat}(hs:Sub js n0 st st2)(hn:∀ id hd,w0.own id=some hd->id<n0)(hle:n0<=st2.h.length):StRel F w0 N (ev js st2.h own) st2 a w:=by
 obtain⟨q1,q2,q3,q4⟩:=wM hs h.hp h.fr hn hle;refine⟨h.size,h.defers,q1,q2,fun t=>?_⟩
 ·rcases sd t _ hs.2.1 with e| ⟨e1,e2⟩
  ·rw[e];exact .any _
  ·have:=h.slots t;rw[e1]at this;exact q4 5 _ _ e2 this
theorem vn (hm:P.follows .mixedOrders=true)(hts:ts.ok P)(hG:ConsOk P G){id:Nat}{c:Code}(hc:ca N c=true){σ:Type}(D:σ->St)(I:σ->Prop)(m:σ->Nat)(n0:Nat)(hn:∀ id hd,w0.own id=some hd->id<n0)(Q:Ex->St->Prop)
  (hround:∀ x,I x->∃ L Qx,ap P ro N L c/\(∀ e st',Qx e st'->mu D I m n0 x id Q e st')/\exec ts G L c (D x) Qx):
  ∀ x,I x->∀ own a w,StRel F w0 N own (D x) a w->(Code.block id (.loop c)).wpIn (rd ro) nd P (tz F w0 N Q) a w:=by
 intro x hx own a w hr;refine wpIn_block (wpIn_loop_ghost (fun n a w=>∃ x F1 own,I x/\m x=n/\(∀ b,F b->F1 b)/\StRel F1 w0 N own (D x) a w) (m x) ⟨x,F,own,hx,rfl,fun _ h=>h,hr⟩ ?_);rintro n a w ⟨x,F2,own,hx,rfl,hF2,hr⟩;obtain⟨L,Qx,hl,hQx,hex⟩:=hround x hx;refine wpIn_mono (wpIn_mono (kp hm hts hG c hc hl F2 (D x) _ hex own a w hr) (lU hQx)) ?_;intro e a' w' hq;cases e with
 |normal=>
  obtain⟨F1,own',st',h0,h1,y,js,h2,h3,h5,h4⟩:=hq;exact⟨m y,h3,y,F1,_,h2,rfl,fun b hb=>h0 b (hF2 b hb),h1.sub h4 hn h5⟩
 |exit j=>
  obtain⟨F1,own',st',h0,h1,h2⟩:=hq;have h2':(bif Nat.beq j id then Q .normal st' else Q (.exit j) st'):=h2;show if j=id then _ else _;by_cases hj:j=id
  ·subst hj;rw[if_pos rfl];simp only[Nat.beq_refl,cond_true]at h2';exact⟨F1,own',st',fun b hb=>h0 b (hF2 b hb),h1,h2'⟩
  ·rw[if_neg hj];have:Nat.beq j id=false:=by cases hb:Nat.beq j id with
    |false=>rfl
    |true=>exact absurd (Nat.eq_of_beq_eq_true hb) hj
   rw[this]at h2';exact⟨F1,own',st',fun b hb=>h0 b (hF2 b hb),h1,h2'⟩
 |ret=>
  obtain⟨F1,own',st',h0,h1,h2⟩:=hq;exact⟨F1,own',st',fun b hb=>h0 b (hF2 b hb),h1,h2⟩
 |panic ch=>
  obtain⟨x,F1,own',st',h0,h1,h2,h3⟩:=hq;exact⟨x,F1,own',st',fun b hb=>h0 b (hF2 b hb),h1,h2,h3⟩
 |_=>exact hq.elim
end
section
variable {P:Program}{F:Nat->Prop}{w0:Bs}{ro:Option Nat}{nd:Nat}{ts:Tis}{G:Cons}{L:mL}{N:Nat}
theorem yj:∀ (l:List SV) (n t:Nat),lk t (iJ n l)=if n<=t then(l[t - n]?).getD .any else .any
 | [],n,t=>by simp[iJ,lk]
 |s::r,n,t=>by
  rw[iJ,jo,yj r (n+1) t];by_cases h:n=t
  ·subst h;simp
  ·rw[if_neg h];by_cases h2:n+1<=t
   ·rw[if_pos h2,if_pos (by omega),show t - n=(t - (n+1))+1 by omega,List.getElem?_cons_succ]
   ·rw[if_neg h2,if_neg (by omega)]
def DU (tmps:Array Value):ResultVar->Sem Value
 | .tmp t=>pure (tmps.getD t undef)
 | .cell q t=>do loadVar t (<-asAddr (tmps.getD q undef))
theorem zU (fn:Func)(tmps:Array Value):results fn tmps=(do let vs <-fn.results.mapM (DU tmps);pure (if h:vs.size=1 then vs[0]else .tuple vs)):=by
 unfold results;congr 2
structure Shut (Ds:List Nat)(w w':World):Prop where
 size:w'.heap.size=w.heap.size
 block:∀ k,k ∉ Ds->w'.heap[k]? =w.heap[k]?
 os:w'.os=w.os
 tape:w'.tape=w.tape
 output:w'.output=w.output
theorem qK {fn:Func}{tmps:Array Value}{R:Ending->World->Prop}{u:FrameMode}(hu:u≠ .run){bs:List Deferred}:∀ (Ds:List Nat) (ds:List Deferred) (w:World),ds.map (·.target)=Ds.map .collected->Ds.Nodup->
  (∀ D∈Ds,w.heap[D]? =some (.deferred (some [])))->(∀ w2,Shut Ds w w2->LeavesInM (rd none) nd P fn tmps R bs u w2)->LeavesInM (rd none) nd P fn tmps R (ds++bs) u w
 | [],[],w,_,_,_,h=>h w ⟨rfl,fun _ _=>rfl,rfl,rfl,rfl⟩
 | [],_::_,w,hm,_,_,_=>by simp at hm
 |_::_,[],w,hm,_,_,_=>by simp at hm
 |D::Ds,d::ds,w,hm,hn,hD,h=>by
  simp only[List.map_cons,List.cons.injEq]at hm;obtain⟨hd,hm⟩:=hm;rw[List.nodup_cons]at hn;have hlt:=iK (hD D (by simp));refine⟨hu,.inl ⟨D,_,hd,run_takeDeferred (hD D (by simp)),?_⟩⟩;refine qK hu Ds ds _ hm hn.2 (fun D' hD'=>?_) fun w2 hs=>?_
  ·rw[World.putObj_heap_other (by rintro rfl;exact hn.1 hD')];exact hD D' (by simp[hD'])
  ·refine h w2 ⟨?_,fun k hk=>?_,hs.os,hs.tape,hs.output⟩
   ·rw[hs.size];simp[World.putObj]
   ·simp only[List.mem_cons,not_or]at hk;rw[hs.block k hk.2,World.putObj_heap_other hk.1]
theorem StRel.shut {own:Own}{st:St}{a:Act}{w w2:World}{Ds:List Nat}(h:StRel F w0 N own st a w)(hD:∀ D∈Ds,w0.w.heap.size<=D/\F D/\w.heap[D]? =some (.deferred (some [])))(hs:Shut Ds w w2):
  StRel F w0 N own st { a with defers:=w0.ds} w2:=by
 have g:Goes F own w own w2:=⟨fun _ hd e=>⟨hd,e,.refl _⟩,fun b _ hn=>⟨hn,hs.block b fun hb=>hn (.inl (hD b hb).2.1)⟩,by rw[hs.size];exact Nat.le_refl _⟩;refine⟨h.size,Dfr.nil,h.hp.goes g fun id hd b e hb=>hs.block b fun hm=>h.hp.apart id hd b e hb (hD b hm).2.1,⟨h.fr.ids,h.fr.base,hs.os.trans h.fr.os,hs.tape.trans h.fr.tape,hs.output.trans h.fr.output,by rw[hs.size];exact h.fr.size,fun k hk=>?_⟩,fun t=>(h.slots t).mono g⟩;rw[hs.block k fun hb=>by have:=(hD k hb).1;have:=hk.1;omega];exact h.fr.block k hk
theorem StRel.less {F1:Nat->Prop}(hF:∀ b,F b->F1 b){own:Own}{st:St}{a:Act}{w:World}(h:StRel F1 w0 N own st a w)(hd:a.defers=w0.ds):StRel F w0 N own st a w:=by
 have hc:Carries F1 own w F own w:=⟨fun _ hd e=>⟨hd,e,.refl _⟩,fun b _ hn=>⟨fun ho=>hn (ho.imp (hF b) id),rfl⟩⟩;refine⟨h.size,by rw[hd];exact Dfr.nil,⟨h.hp.dom,fun b hb=>h.hp.foreign b (hF b hb),fun id hd b e hb hf=>h.hp.apart id hd b e hb (hF b hf),h.hp.inj,h.hp.lt,fun id hdd=>?_⟩,h.fr,fun t=>(h.slots t).carry hc⟩;obtain⟨hd,e1,e2⟩:=h.hp.obs id hdd;exact⟨hd,e1,e2.carry hc (Nat.le_refl _) fun _ _=>rfl⟩
theorem Ck (hts:ts.ok P){own:Own}{st:St}{a:Act}{w:World}(hr:StRel F w0 N own st a w){x:ResultVar}{s:SV}(h:BO ts st x=some s):
  ∃ v,(DU a.tmps x).run P w=.ok v w/\Rel F own w s v:=by
 cases x with
 |tmp n=>
  simp only[BO,Option.some.injEq]at h;subst h;exact⟨_,rfl,hr.slots n⟩
 |cell q t=>
  simp only[BO]at h;cases hg:an ts t fun ti=>jE ti st.h (lk q st.t)with
  |val s'=>
   rw[hg]at h;simp only[FV,Option.some.injEq]at h;subst h;obtain⟨ti,ht,he⟩:=ba hts hg (by simp);obtain⟨u,e1,e2⟩:=xK (P:=P) hr.hp ht (hr.slots q) he;refine⟨u,?_,e2⟩;show(do loadVar t (<-asAddr (a.tmps.getD q undef)):Sem Value).run P w=.ok u w;generalize a.tmps.getD q undef=vq at e1 |-;unfold Instr.loadAt at e1;rw[Sem.run_bind]at e1 |-;have hsure:∀ x w',(Instr.sureAddr vq).run P w=.ok x w'->(asAddr vq).run P w=.ok x w':=by
    intro x w' h;unfold Instr.sureAddr at h;split at h
    ·exact h
    ·simp[stuck]at h
   cases hsa:(Instr.sureAddr vq).run P w with
   |ok x w'=>rw[hsa]at e1;rw[hsure x w' hsa];exact e1
   |halt x w'=>rw[hsa]at e1;simp[Result.andThen]at e1
  |_=>rw[hg]at h;simp[FV]at h
theorem vo (hts:ts.ok P){own:Own}{st:St}{a:Act}{w:World}(hr:StRel F w0 N own st a w):∀ (rs:List ResultVar) (l:List SV),ir ts st rs=some l->
  ∃ vs:List Value,(rs.mapM (DU a.tmps):Sem (List Value)).run P w=.ok vs w/\vs.length=l.length/\∀ (j:Nat) (s:SV),l[j]? =some s->∃ v,vs[j]? =some v/\Rel F own w s v
 | [],l,h=>by
  simp[ir]at h;subst h;exact⟨[],by simp,rfl,fun j s hj=>by simp at hj⟩
 |x::r,l,h=>by
  simp only[ir]at h;cases hv:BO ts st x with
  |none=>rw[hv]at h;simp[xG]at h
  |some s0=>
   cases hl:ir ts st r with
   |none=>rw[hv,hl]at h;simp[xG]at h
   |some l'=>
    rw[hv,hl]at h;simp only[xG,Option.some.injEq]at h;subst h;obtain⟨v0,f1,f2⟩:=Ck (P:=P) hts hr hv;obtain⟨vs,e1,e2,e3⟩:=vo hts hr r l' hl;refine⟨v0::vs,?_,by simp[e2],fun j s hj=>?_⟩
    ·rw[List.mapM_cons];simp only[Sem.run_bind,f1,Sem.run_pure,Result.andThen_ok,e1]
    ·cases j with
     |zero=>simp at hj;subst hj;exact⟨_,rfl,f2⟩
     |succ j=>simp at hj;simpa using e3 j s hj
theorem pJ (hts:ts.ok P){fn:Func}{own:Own}{st:St}{a:Act}{w:World}(hr:StRel F w0 N own st a w){s:SV}(h:jh (ir ts st fn.results.toList)=some s):∃ u,(results fn a.tmps).run P w=.ok u w/\Rel F own w s u:=by
 cases hl:ir ts st fn.results.toList with
 |none=>rw[hl]at h;cases h
 |some l=>
  obtain⟨vs,e1,e2,e3⟩:=vo (P:=P) hts hr _ l hl;rw[hl]at h;have hres:(results fn a.tmps).run P w=.ok (if h:vs.toArray.size=1 then vs.toArray[0]else .tuple vs.toArray) w:=by
   rw[zU,Array.mapM_eq_mapM_toList];simp only[Sem.run_bind,Sem.run_map,e1,Result.andThen_ok,Sem.run_pure]
  have hlen:vs.toArray.size=l.length:=by simpa using e2
  match l,h,e2,e3,hlen with
  | [s0],h,e2,e3,hlen=>
   simp only[jh,Option.some.injEq]at h;subst h;obtain⟨v,hv,hrel⟩:=e3 0 s0 rfl;refine⟨v,?_,hrel⟩;rw[hres,dif_pos (by rw[hlen];rfl)];congr 1
   have:=(List.getElem?_eq_some_iff.1 hv).2;simpa using this
  | [],h,e2,e3,hlen=>
   simp only[jh,Option.some.injEq]at h;subst h;refine⟨.tuple vs.toArray,by rw[hres,dif_neg (by rw[hlen];simp)],.tup (by simpa using e2) fun j s hj=>by simp at hj⟩
  |s0::s1::r,h,e2,e3,hlen=>
   simp only[jh,Option.some.injEq]at h;subst h;refine⟨.tuple vs.toArray,by rw[hres,dif_neg (by rw[hlen];simp)],.tup (by simpa using e2) fun j s hj=>?_⟩;obtain⟨v,hv,hrel⟩:=e3 j s hj;have:vs.toArray.getD j undef=v:=by simp[Array.getD_eq_getD_getElem?,hv]
   rw[this];exact hrel
theorem ia {fn:Func}{own:Own}{st:St}{a:Act}{w:World}{R:Ending->World->Prop}(hr:StRel F w0 N own st a w){u:FrameMode}(hu:u≠ .run)
  (h:∀ w2,StRel F w0 N own st { a with defers:=w0.ds} w2->LeavesInM (rd none) nd P fn a.tmps R w0.ds u w2):LeavesInM (rd none) nd P fn a.tmps R a.defers u w:=by
 obtain⟨ms,Ds,h0,h1,h2,h3⟩:=hr.defers;rw[h0];exact qK hu Ds ms w h1 h2 (fun D hD=>(h3 D hD).2.2) fun w2 hs=>h w2 (hr.shut h3 hs)
theorem jP {w w':World}{own:Own}(h:Fr { w:=w,own:=bX} own w'):Below w.heap.size w w':=
 ⟨h.os,h.tape,h.output,h.size,fun k hk=>h.block k ⟨hk,fun⟨_,_,e,_⟩ =>by cases e⟩⟩
theorem jQ {own:Own}{w:World}{l:List SV}{vs:Array Value}(hvs:RelL F own w l vs)(n t:Nat):Rel F own w (lk t (iJ 0 l)) ((vs++Array.replicate n undef).getD t undef):=by
 rw[yj,if_pos (Nat.zero_le t),Nat.sub_zero];cases ht:l[t]? with
 |none=>exact .any _
 |some s=>
  have hlt:t<vs.size:=by rw[hvs.1];exact(List.getElem?_eq_some_iff.1 ht).1
  have:=hvs.2 t s ht
  rwa[gl (j:=t) (ws:=vs) (by rw[Array.getElem?_append_left hlt])]
theorem pK {w:World}(hF:∀ b,F b->b<w.heap.size):Hp F bX w []:=
 ⟨fun _ _ h=>(by cases h),hF,fun _ _ _ h=>(by cases h),fun _ _ _ _ _ h=>(by cases h),fun _ _ _ h=>(by cases h),fun id h=>(by simp[ae,bZ]at h)⟩
def fl (h:List Ob):Nat->SV->List Nat
 |_,.os id=>match av 0 (nh (ae h id))with| [] =>[] |_=>[id]
 |n+1,.agg l=>l.flatMap (fl h n)
 |n+1,.tup l=>l.flatMap (fl h n)
 |_,_=>[]
theorem rA (o:Ob):(∃ (k:Tag) (l:List k.T),o=.row k l/\nh o=.nw k l)\/(∃ (k k2:Tag) (l:List (k.T×k2.T)),o=.mp k k2 l none/\nh o=.nm k k2 l)\/(∃ (k:Tag) (l:List (List k.T)),o=.grid k l/\nh o=.ng k l)\/nh o=.any:=by
 cases o with
 |row k l=>exact .inl ⟨k,l,rfl,rfl⟩
 |mp k k2 l p=>
  cases p with
  |none=>exact .inr (.inl ⟨k,k2,l,rfl,rfl⟩)
  |some x=>exact .inr (.inr (.inr rfl))
 |grid k l=>exact .inr (.inr (.inl ⟨k,l,rfl,rfl⟩))
 |_=>exact .inr (.inr (.inr rfl))
theorem zV:∀ (n:Nat) (s:SV),bO n s=true->∀ m,av m s=[]:=by
 intro n;induction n with
 |zero=>intro s h m;cases s <;>simp[bO]at h <;>cases m <;>rfl
 |succ n ih=>
  intro s h m;have hl:∀ (l:List SV) m,l.all (bO n)=true->l.flatMap (av m)=[]:=fun l m hl=>by
   rw[List.flatMap_eq_nil_iff];intro x hx;rw[List.all_eq_true]at hl;exact ih x (hl x hx) m
  cases s with
  |agg l=>cases m with
   |zero=>rfl
   |succ m=>exact hl l m h
  |tup l=>cases m with
   |zero=>rfl
   |succ m=>exact hl l m h
  |_=>first|(cases m <;>rfl) |simp[bO]at h
theorem vp {h:List Ob}:∀ (n:Nat) (s:SV),av n (ov h n s)=(fl h n s).map (ae h)/\fl h n s ⊆ mt n s/\(fl h n s).Sublist (mt n s)/\∀ id∈fl h n s,Plain (ae h id):=by
 have hos:∀ (n id:Nat),av n (nh (ae h id))=(fl h n (.os id)).map (ae h)/\fl h n (.os id) ⊆ [id]/\(fl h n (.os id)).Sublist [id]/\∀ i∈fl h n (.os id),Plain (ae h i):=by
  intro n id;have e:fl h n (.os id)=match av 0 (nh (ae h id))with| [] =>[] |_=>[id]:=by cases n <;>rfl
  rw[e];rcases rA (ae h id)with⟨k,l,e1,e2⟩ | ⟨k,k2,l,e1,e2⟩ | ⟨k,l,e1,e2⟩ |e2
  ·rw[e2];refine⟨?_,by simp[av],by simp[av],fun i hi=>?_⟩
   ·cases n <;>simp[av,e1]
   ·simp[av]at hi;subst hi;exact .inl ⟨k,l,e1⟩
  ·rw[e2];refine⟨?_,by simp[av],by simp[av],fun i hi=>?_⟩
   ·cases n <;>simp[av,e1]
   ·simp[av]at hi;subst hi;exact .inr (.inl ⟨k,k2,l,e1⟩)
  ·rw[e2];refine⟨?_,by simp[av],by simp[av],fun i hi=>?_⟩
   ·cases n <;>simp[av,e1]
   ·simp[av]at hi;subst hi;exact .inr (.inr ⟨k,l,e1⟩)
  ·rw[e2];refine⟨?_,by simp[av],by simp[av],fun i hi=>?_⟩
   ·cases n <;>rfl
   ·simp[av]at hi
 have hleaf:∀ (n m:Nat) (s:SV),av n (bif bO m s then s else .any)=[]:=fun n m s=>by
  cases hb:bO m s with
  |true=>exact zV m s hb n
  |false=>cases n <;>rfl
 intro n;induction n with
 |zero=>
  intro s;cases s with
  |os id=>exact hos 0 id
  |_=>first|exact⟨rfl,by simp[fl,mt],by simp[fl,mt],fun i hi=>by simp[fl]at hi⟩ |exact⟨hleaf _ _ _,by simp[fl,mt],by simp[fl,mt],fun i hi=>by simp[fl]at hi⟩
 |succ n ih=>
  intro s;have hl:∀ l:List SV,(l.map (ov h n)).flatMap (av n)=(l.flatMap (fl h n)).map (ae h)/\l.flatMap (fl h n) ⊆ l.flatMap (mt n)/\(l.flatMap (fl h n)).Sublist (l.flatMap (mt n))/\∀ id∈l.flatMap (fl h n),Plain (ae h id):=by
   intro l;induction l with
   |nil=>exact⟨rfl,by simp,by simp,fun i hi=>by simp at hi⟩
   |cons x r ihl=>
    obtain⟨q1,q2,q3,q4⟩:=ihl;obtain⟨p1,p2,p3,p4⟩:=ih x;refine⟨by simp only[List.map_cons,List.flatMap_cons,List.map_append,q1,p1],?_,?_,?_⟩
    ·simp only[List.flatMap_cons];intro i hi;rcases List.mem_append.1 hi with hi|hi
     ·exact List.mem_append_left _ (p2 hi)
     ·exact List.mem_append_right _ (q2 hi)
    ·simp only[List.flatMap_cons];exact p3.append q3
    ·simp only[List.flatMap_cons];intro i hi;rcases List.mem_append.1 hi with hi|hi
     ·exact p4 i hi
     ·exact q4 i hi
  cases s with
  |os id=>exact hos (n+1) id
  |agg l=>exact hl l
  |tup l=>exact hl l
  |_=>first|exact⟨rfl,by simp[fl,mt],by simp[fl,mt],fun i hi=>by simp[fl]at hi⟩ |exact⟨hleaf _ _ _,by simp[fl,mt],by simp[fl,mt],fun i hi=>by simp[fl]at hi⟩
theorem tE:∀ l:List Nat,uniq l=true->l.Nodup
 | [],_=>List.nodup_nil
 |a::r,h=>by
  simp only[uniq,Bool.and_eq_true]at h;rw[List.nodup_cons];refine⟨fun hm=>?_,tE r h.2⟩;rw[(ny a r).2 hm]at h;simp at h
theorem Cl {own own':Own}{w:World}{h:List Ob}(hp:Hp F own w h)(hsh:∀ b,¬bD F own b->¬bD F own' b):∀ (n b:Nat) (s:SV) (v:Value),Rel F own w s v->(∀ i id,(fl h n s)[i]? =some id->own' (b+i)=own id)->nv F own' w n b (ov h n s) v:=by
 have hx:∀ c,¬bD F own c->¬bD (bD F own') bX c:=fun c hc=>by
  rintro (hf| ⟨_,_,e,_⟩)
  ·exact hsh c hc hf
  ·cases e
 have hos:∀ (n b id:Nat) (v:Value),Rel F own w (.os id) v->(∀ i j,(fl h n (.os id))[i]? =some j->own' (b+i)=own j)->nv F own' w n b (nh (ae h id)) v:=by
  intro n b id v hr hg;have e:fl h n (.os id)=match av 0 (nh (ae h id))with| [] =>[] |_=>[id]:=by cases n <;>rfl
  rw[e]at hg;cases hr with
  |os h1 h2=>
   rcases rA (ae h id)with⟨k,l,e1,e2⟩ | ⟨k,k2,l,e1,e2⟩ | ⟨k,l,e1,e2⟩ |e2;all_goals rw[e2]at hg |-
   ·have:=hg 0 id (by simp[av]);rw[Nat.add_zero]at this;cases n <;>exact⟨_,by rw[this];exact h1,rfl,h2⟩
   ·have:=hg 0 id (by simp[av]);rw[Nat.add_zero]at this;cases n <;>exact⟨_,by rw[this];exact h1,rfl,h2⟩
   ·have:=hg 0 id (by simp[av]);rw[Nat.add_zero]at this;cases n <;>exact⟨_,by rw[this];exact h1,rfl,h2⟩
   ·cases n <;>exact Rel.any _
 have hleaf:∀ (n m b:Nat) (s:SV) (v:Value),Rel F own w s v->(∀ l,s≠ .agg l)->(∀ l,s≠ .tup l)->nv F own' w n b (bif bO m s then s else .any) v:=by
  intro n m b s v hr n1 n2;cases hb:bO m s with
  |false=>cases n <;>exact Rel.any _
  |true=>
   have hr2:Rel (bD F own') bX w s v:=hr.over (ed m s hb) hx;simp only[cond_true];cases s with
   |agg l=>exact absurd rfl (n1 l)
   |tup l=>exact absurd rfl (n2 l)
   |nw k l=>cases hr
   |nm k k2 l=>cases hr
   |ng k l=>cases hr
   |_=>cases n <;>exact hr2
 intro n;induction n with
 |zero=>
  intro b s v hr hg;cases s with
  |os id=>exact hos 0 b id v hr hg
  |v x=>exact hr.over (.v x) hx
  |rs k l=>exact hr.over .rs hx
  |rm k k2 l=>exact hr.over .rm hx
  |e0=>exact hr.over .e0 hx
  |agg l=>exact Rel.any _
  |tup l=>exact Rel.any _
  |_=>exact hleaf 0 0 b _ v hr (fun _ e=>by cases e) (fun _ e=>by cases e)
 |succ n ih=>
  intro b s v hr hg;have hl:∀ (l:List SV) (vs:Array Value) (b:Nat),(∀ (j:Nat) (s:SV),l[j]? =some s->Rel F own w s (vs.getD j undef))->(∀ i id,(l.flatMap (fl h n))[i]? =some id->own' (b+i)=own id)->
    ∀ (j:Nat) (s:SV),(l.map (ov h n))[j]? =some s->nv F own' w n (b+cnt n ((l.map (ov h n)).take j)) s (vs.getD j undef):=by
   intro l vs b h1 h2 j s hj;obtain⟨x,hx2,rfl⟩:=b_ hj;refine ih _ x _ (h1 j x hx2) fun i id hi=>?_;have hc:cnt n ((l.map (ov h n)).take j)=((l.take j).flatMap (fl h n)).length:=by
    rw[<-List.map_take];generalize l.take j=m;induction m with
    |nil=>rfl
    |cons y r ihm=>simp only[List.map_cons,cnt,List.flatMap_cons,List.length_append,ihm,(vp (h:=h) n y).1,List.length_map]
   rw[hc,Nat.add_assoc];refine h2 _ id ?_;have hsplit:l=l.take j++(x::l.drop (j+1)):=by
    have hlt:=(List.getElem?_eq_some_iff.1 hx2).1;have:=(List.getElem?_eq_some_iff.1 hx2).2;rw[<-this,List.getElem_cons_drop,List.take_append_drop]
   have hil:i< (fl h n x).length:=(List.getElem?_eq_some_iff.1 hi).1;have hf:l.flatMap (fl h n)=(l.take j).flatMap (fl h n)++(fl h n x++(l.drop (j+1)).flatMap (fl h n)):=by rw[<-List.flatMap_cons,<-List.flatMap_append,<-hsplit]
   rw[hf,List.getElem?_append_right (by omega),Nat.add_sub_cancel_left,List.getElem?_append_left hil];exact hi
  cases s with
  |os id=>exact hos (n+1) b id v hr hg
  |v x=>exact hr.over (.v x) hx
  |rs k l=>exact hr.over .rs hx
  |rm k k2 l=>exact hr.over .rm hx
  |e0=>exact hr.over .e0 hx
  |agg l=>cases hr with|agg h0 h1=>exact⟨_,rfl,by simpa using h0,hl l _ b h1 hg⟩
  |tup l=>cases hr with|tup h0 h1=>exact⟨_,rfl,by simpa using h0,hl l _ b h1 hg⟩
  |_=>exact hleaf (n+1) (n+1) b _ v hr (fun _ e=>by cases e) (fun _ e=>by cases e)
theorem A7 {own:Own}{st:St}{a:Act}{w w':World}(hst:StRel F { w:=w,own:=bX} N own st a w'){s s2:SV}{u:Value}(hr:Rel F own w' s u)(hg:rj st.h s=some s2):∃ own',Handed F w own' w' s2 u:=by
 unfold rj at hg;cases hb:uniq (mt 3 s)&&(mt 3 s).all (fun i=>Nat.blt i st.h.length)with
 |false=>rw[hb]at hg;cases hg
 |true=>
  rw[hb]at hg;simp only[cond_true,Option.some.injEq]at hg;subst hg;rw[Bool.and_eq_true]at hb;obtain⟨g1,g2,g3,g4⟩:=vp (h:=st.h) 3 s;have hnd:(fl st.h 3 s).Nodup:=(tE _ hb.1).sublist g3;let own':Own:=fun i=>((fl st.h 3 s)[i]?).bind own
  have ho:∀ i hd,own' i=some hd->∃ id,(fl st.h 3 s)[i]? =some id/\own id=some hd:=fun i hd e=>by
   simp only[own',Option.bind_eq_some_iff]at e;exact e
  have hsh:∀ b,¬bD F own b->¬bD F own' b:=fun b hb=>by
   rintro (hf| ⟨i,hd,e,hm⟩)
   ·exact hb (.inl hf)
   ·obtain⟨id,_,e2⟩:=ho i hd e;exact hb (.inr ⟨id,hd,e2,hm⟩)
  refine⟨own',⟨fun i hd e=>?_,hst.hp.foreign,fun i hd b e hm=>?_,fun i j hi hj b e1 e2 hb1 hb2=>?_,fun i hd b e hm=>?_,fun i hdd=>?_⟩,?_,fun i hd b e hm=>?_⟩
  ·obtain⟨id,e1,_⟩:=ho i hd e;rw[g1,List.length_map];exact(List.getElem?_eq_some_iff.1 e1).1
  ·obtain⟨id,_,e2⟩:=ho i hd e;exact hst.hp.apart id hd b e2 hm
  ·obtain⟨k1,p1,p2⟩:=ho i hi e1;obtain⟨k2,q1,q2⟩:=ho j hj e2;have:=hst.hp.inj k1 k2 hi hj b p2 q2 hb1 hb2;subst this;exact kF hnd p1 q1
  ·obtain⟨id,_,e2⟩:=ho i hd e;exact hst.hp.lt id hd b e2 hm
  ·rw[g1]at hdd |-;rw[jy]at hdd |-;rw[List.getElem?_map]at hdd |-;cases hi:(fl st.h 3 s)[i]? with
   |none=>rw[hi]at hdd;simp[bZ]at hdd
   |some id=>
    rw[hi]at hdd;simp only[Option.map_some,Option.getD_some]at hdd |-;obtain⟨hd,e1,e2⟩:=hst.hp.obs id hdd;refine⟨hd,by simp only[own',hi,Option.bind_some];exact e1,e2.over (g4 id (List.mem_of_getElem? hi)) (.inl hsh)⟩
  ·exact Cl hst.hp hsh 3 0 s u hr fun i id hi=>by rw[Nat.zero_add];simp only[own',hi,Option.bind_some]
  ·obtain⟨id,_,e2⟩:=ho i hd e;have:=hst.fr.base id hd b e2 hm;rcases Nat.lt_or_ge b w.heap.size with hlt|hge
   ·exact absurd ⟨hlt,fun⟨_,_,e,_⟩ =>by cases e⟩ this
   ·exact hge
end
section
variable {P:Program}{F:Nat->Prop}{w0:Bs}{ro:Option Nat}{nd:Nat}{ts:Tis}{G:Cons}{L:mL}{N:Nat}
theorem nA {w w':World}{s:SV}{u:Value}(hF:∀ b,F b->b<w'.heap.size)(h:Rel F bX w' s u):Handed F w bX w' s u:=by
 refine⟨?_,DG 3 0 h,fun _ _ _ e=>(by cases e)⟩;rw[tf 3 h];exact pK hF
theorem DV (m:Bool) (hm:P.follows .mixedOrders=true) (hts:ts.ok P) (hG:ConsOk P G) {f:FuncId} {fn:Func} {c:Code} (hf:P.funcs[f]? =some fn) (hb:fn.body=some c) (hname:(fn.name== "runtime.NumGoroutine")=false)
  (hc:ca fn.ntmps c=true) {C:List SV->Option Con}
  (h:∀ l con,C l=some con->bb con->l.length<=fn.ntmps/\∃ L,ap P none fn.ntmps L c/\exec ts G L c ⟨iJ 0 l,[]⟩ (xI m fn.results.toList ts (cH con) (iu con))):FnOk P f C:=by
 refine⟨fun l con _ args w=>?_,fun l con hcon hpre F w vs hF hvs=>?_⟩
 ·have hn:¬fn.name= "runtime.NumGoroutine":=by simpa using hname
  simp[callFunc,hf,hn,hb]
 ·obtain⟨hlen,L,hl,hx⟩:=h l con hcon hpre;refine kQ (n:=0) (callsIn_of_wp_marks hf hb trivial ?_);have hr:StRel F { w:=w,own:=bX} fn.ntmps bX ⟨iJ 0 l,[]⟩ { tmps:=vs++Array.replicate (fn.ntmps - vs.size) undef,defers:=[]} w:=
   ⟨by have:=hvs.1;simp;omega,Dfr.nil,pK hF,Fr.refl _,fun t=>jQ hvs _ t⟩
  refine wpIn_mono (kp hm hts hG c hc hl F _ _ hx bX _ w hr) ?_;intro e a' w' hq;have key:∀ F1 own st,(∀ b,F b->F1 b)->StRel F1 { w:=w,own:=bX} fn.ntmps own st a' w'->c9 (cH con) (oN m fn.results.toList ts st)->LeavesInM (rd none) 0 P fn a'.tmps
    (fun e w'=>(∃ s u own',cH con s/\e=.returned u/\Handed F w own' w' s u/\Below w.heap.size w w')\/(∃ x,iu con x/\e=.panicked [{ v:=x,recovered:=false}]/\Below w.heap.size w w')) a'.defers .returning w':=by
   intro F1 own st hF1 hst hdone;refine ia hst (by simp) fun w2 hst2=>?_;have hst3:=hst2.less hF1 rfl;unfold oN at hdone;cases hs:jh (ir ts st fn.results.toList)with
   |none=>
    cases m <;>simp only[cond_true,cond_false,pi,BP]at hdone <;>rw[hs]at hdone <;>exact hdone.elim
   |some s=>
    obtain⟨u,e1,e2⟩:=pJ (P:=P) hts hst3 hs;refine⟨u,e1,.inl ?_⟩;cases m with
    |false=>
     simp only[cond_false,pi]at hdone;rw[hs]at hdone;exact⟨_,u,bX,hdone,rfl,nA hst3.hp.foreign (nS hst3.hp 4 s u e2),jP hst3.fr⟩
    |true=>
     simp only[cond_true,BP]at hdone;rw[hs]at hdone;change c9 (cH con) (rj st.h s)at hdone;cases hg:rj st.h s with
     |none=>rw[hg]at hdone;exact hdone.elim
     |some s2=>
      rw[hg]at hdone;obtain⟨own',hh⟩:=A7 hst3 e2 hg;exact⟨_,u,own',hdone,rfl,hh,jP hst3.fr⟩
  cases e with
  |normal=>obtain⟨F1,own,st,h0,h1,h2⟩:=hq;exact key F1 own st h0 h1 h2
  |ret=>obtain⟨F1,own,st,h0,h1,h2⟩:=hq;exact key F1 own st h0 h1 h2
  |exit id=>obtain⟨F1,own,st,h0,h1,h2⟩:=hq;exact h2.elim
  |panic ch=>
   obtain⟨x,F1,own,st,h0,h1,h2,rfl⟩:=hq;exact ia h1 (by simp) fun w2 hst2=>.inr ⟨x,h2,rfl,jP hst2.fr⟩
  |_=>exact hq.elim
theorem Gi {js:List Nat}{n0:Nat}{own:Own}{h h':List Ob}{s s':SV}{w:World}(hs:Sub js n0 ⟨[(0,s)],h⟩ ⟨[(0,s')],h'⟩)(hp:Hp F own w h)(hfr:Fr w0 own w)(hn:∀ id hd,w0.own id=some hd->id<n0)(hle:n0<=h'.length){u:Value}(hr:Rel F own w s u):
  Rel F (ev js h' own) w s' u:=by
 obtain⟨_,_,_,q4⟩:=wM hs hp hfr hn hle;obtain⟨_,⟨⟨k1,k2⟩,_⟩,_⟩:=hs;have e:s=ren (rQ js) 5 s':=by simpa[lk]using k1
 rw[e]at hr;exact q4 5 s' u k2 hr
theorem tF (hm:P.follows .mixedOrders=true) (hts:ts.ok P) (hG:ConsOk P G) {f:FuncId} {fn:Func} {c:Code} (hf:P.funcs[f]? =some fn) (hb:fn.body=some c) (hname:(fn.name== "runtime.NumGoroutine")=false)
  (hc:ca fn.ntmps c=true) {C:List SV->List Ob->Option HCon}
  (h:∀ l o con,C l o=some con->con.pre->l.length<=fn.ntmps/\∃ L Qx,ap P none fn.ntmps L c/\(∀ e st,Qx e st->xJ o.length fn.results.toList ts con e st)/\exec ts G L c ⟨iJ 0 l,o⟩ Qx):FnOkO P f C:=by
 refine⟨fun l o con _ args w=>?_,fun l o con hcon hpre F own w vs hp hvs=>?_⟩
 ·have hn:¬fn.name= "runtime.NumGoroutine":=by simpa using hname
  simp[callFunc,hf,hn,hb]
 ·obtain⟨hlen,L,Qx,hl,hQ,hx⟩:=h l o con hcon hpre;have hn0:∀ id hd,own id=some hd->id<o.length:=fun id hd e=>hp.dom id hd e;refine kQ (n:=0) (callsIn_of_wp_marks hf hb trivial ?_);have hr:StRel F { w:=w,own:=own} fn.ntmps own ⟨iJ 0 l,o⟩ { tmps:=vs++Array.replicate (fn.ntmps - vs.size) undef,defers:=[]} w:=
   ⟨by have:=hvs.1;simp;omega,Dfr.nil,hp,Fr.refl { w:=w,own:=own},fun t=>jQ hvs _ t⟩
  refine wpIn_mono (kp hm hts hG c hc hl F _ _ hx own _ w hr) ?_;intro e a' w' hq
  replace hq:=lU hQ _ _ _ hq
  have key:∀ F1 own' st,(∀ b,F b->F1 b)->StRel F1 { w:=w,own:=own} fn.ntmps own' st a' w'->pj o.length con (jh (ir ts st fn.results.toList)) st.h->LeavesInM (rd none) 0 P fn a'.tmps (fun e w'=>∃ r own',con.post r/\wB F w own o.length e own' w' (con.res r)) a'.defers .returning w':=by
   intro F1 own' st hF1 hst hdone;refine ia hst (by simp) fun w2 hst2=>?_;have hst3:=hst2.less hF1 rfl;cases hs:jh (ir ts st fn.results.toList)with
   |none=>rw[hs]at hdone;exact hdone.elim
   |some s=>
    rw[hs]at hdone;obtain⟨r,s',h',js,q1,q2,q3,q4⟩:=hdone;obtain⟨u,e1,e2⟩:=pJ (P:=P) hts hst3 hs;obtain⟨k1,k2,_,_⟩:=wM q4 hst3.hp hst3.fr hn0 q3;refine⟨u,e1,r,ev js h' own',q1,?_⟩;rw[q2];exact⟨⟨u,rfl,Gi q4 hst3.hp hst3.fr hn0 q3 e2⟩,k1,k2,q3⟩
  cases e with
  |normal=>obtain⟨F1,own',st,h0,h1,h2⟩:=hq;exact key F1 own' st h0 h1 h2
  |ret=>obtain⟨F1,own',st,h0,h1,h2⟩:=hq;exact key F1 own' st h0 h1 h2
  |exit id=>obtain⟨F1,own',st,h0,h1,h2⟩:=hq;exact h2.elim
  |panic ch=>
   obtain⟨x,F1,own',st,h0,h1,⟨r,h',js,q1,q2,q3,q4⟩,rfl⟩:=hq;refine ia h1 (by simp) fun w2 hst2=>?_;have hst3:=hst2.less h0 rfl;obtain⟨k1,k2,_,_⟩:=wM q4 hst3.hp hst3.fr hn0 q3;refine⟨r,ev js h' own',q1,?_⟩;rw[q2];exact⟨rfl,k1,k2,q3⟩
  |_=>exact hq.elim
theorem yk (hm:P.follows .mixedOrders=true) (hts:ts.ok P) (hG:ConsOk P G) {f:FuncId} {fn:Func} {c:Code} (hf:P.funcs[f]? =some fn) (hb:fn.body=some c) (hname:(fn.name== "runtime.NumGoroutine")=false)
  (hc:ca fn.ntmps c=true) {C:List SV->List Ob->Option HCon}
  (h:∀ l o con,C l o=some con->con.pre->l.length<=fn.ntmps/\∃ L,ap P none fn.ntmps L c/\exec ts G L c ⟨iJ 0 l,o⟩ (xJ o.length fn.results.toList ts con)):FnOkO P f C:=
 tF hm hts hG hf hb hname hc fun l o con h1 h2=>by
  obtain⟨h3,L,h4,h5⟩:=h l o con h1 h2;exact⟨h3,L,_,h4,fun _ _ q=>q,h5⟩
theorem StRel.base_lt {own:Own}{st:St}{a:Act}{w:World}(h:StRel F w0 N own st a w):∀ id hd,w0.own id=some hd->id<st.h.length:=fun id hd e=>by
 obtain⟨hd',e',_⟩:=h.fr.ids id hd e;exact h.hp.dom id hd' e'
theorem yl {ts:Tis}{G:Cons}{ro:Option Nat}{N:Nat}(hm:P.follows .mixedOrders=true)(hts:ts.ok P)(hG:ConsOk P G){id:Nat}{c:Code}(hc:ca N c=true){C:St->Option LCon}
  (h:∀ st lc,C st=some lc->lc.pre->∃ (σ:Type) (D:σ->St) (I:σ->Prop) (m:σ->Nat) (x0:σ) (js:List Nat),I x0/\st.h.length<=(D x0).h.length/\Sub js st.h.length st (D x0)/\
   ∀ x,I x->∃ L Qx,ap P ro N L c/\(∀ e st',Qx e st'->mu D I m st.h.length x id (fun e st'=>∃ r js,lc.post r/\lc.ex r=e/\st.h.length<=(lc.out r).h.length/\Sub js st.h.length st' (lc.out r)) e st')/\exec ts G L c (D x) Qx):gT P ro N id (.loop c) C:=by
 intro nd F w0 st lc hC hpre own a w hr;obtain⟨σ,D,I,m,x0,js,h1,h2,h3,h4⟩:=h st lc hC hpre;refine wpIn_mono (vn hm hts hG hc D I m st.h.length hr.base_lt _ h4 x0 h1 _ a w (hr.sub h3 hr.base_lt h2)) ?_;intro e a' w' hq;have key:∀ ex F1 own' st',StRel F1 w0 N own' st' a' w'->(∃ r js,lc.post r/\lc.ex r=ex/\st.h.length<=(lc.out r).h.length/\Sub js st.h.length st' (lc.out r))->∃ own2 st2,StRel F1 w0 N own2 st2 a' w'/\∃ r,lc.post r/\ex=lc.ex r/\st2=lc.out r:=by
  rintro ex F1 own' st' hst ⟨r,js,q1,q2,q3,q4⟩;exact⟨_,_,hst.sub q4 hr.base_lt q3,r,q1,q2.symm,rfl⟩
 cases e with
 |normal=>obtain⟨F1,own',st',h0,k1,k2⟩:=hq;obtain⟨own2,st2,q1,q2⟩:=key _ F1 own' st' k1 k2;exact⟨F1,own2,st2,h0,q1,q2⟩
 |exit j=>obtain⟨F1,own',st',h0,k1,k2⟩:=hq;obtain⟨own2,st2,q1,q2⟩:=key _ F1 own' st' k1 k2;exact⟨F1,own2,st2,h0,q1,q2⟩
 |ret=>obtain⟨F1,own',st',h0,k1,k2⟩:=hq;obtain⟨own2,st2,q1,q2⟩:=key _ F1 own' st' k1 k2;exact⟨F1,own2,st2,h0,q1,q2⟩
 |panic ch=>
  obtain⟨x,F1,own',st',h0,k1,k2,k3⟩:=hq;obtain⟨own2,st2,q1,q2⟩:=key _ F1 own' st' k1 k2;exact⟨x,F1,own2,st2,h0,q1,q2,k3⟩
 |_=>exact hq.elim
end
end Go.Sx
end
