/- Part of the proof that the law JudgementServed returns true and leaves its arguments as they were, for all arguments of bulk at most 1048576 (the Upto form). -/
import Derived.Test.YtnanafpgfihjfaaGreatJ702
import Derived.Laws.IdiomRangeMap
set_option linter.all false
set_option maxHeartbeats 4000000
set_option maxRecDepth 100000
section
namespace Go.Sx
open Go.RowKit
section
variable {P:Program}{F:Nat->Prop}{own:Own}{w:World}
theorem jo {id:Nat}{v:Value}(h:Rel F own w (.os id) v):∃ hd,own id=some hd/\v=hd.v/\sK hd.v=true:=by
 cases h with|os h1 h2=>grind
theorem RowRel.blocks {k:Tag}{l:List k.T}{v:Value}{bs:List Nat}(h:RowRel F own w k l v bs):bs=[]\/∃ b,bs=[b]:=by
 rcases h with⟨_,_,_,e⟩ | ⟨b,_,_,_,_,_,e,_⟩ <;>grind
theorem RowRel.slice {k:Tag}{l:List k.T}{v:Value}{bs:List Nat}(h:RowRel F own w k l v bs):∃ a cap,v=.slice a l.length cap:=by
 rcases h with⟨a,e,rfl,_⟩ | ⟨b,o,cap,_,_,e,_⟩ <;>grind
theorem GridIn.app {k:Tag}{m:List k.T}{u:Value}{b2:List Nat}(hu:sK u=true)(hm:RowRel F own w k m u b2):∀ {l:List (List k.T)} {vs:List Value} {bs:List Nat},GridIn F own w k l vs bs->GridIn F own w k (l++[m]) (vs++[u]) (bs++b2)
 | [],[],bs,h=>by grind [GridIn]
 |l::ls,v::vs,bs,⟨c1,c2,h1,h0,h2,h3⟩ =>⟨c1,c2++b2,by grind,h0,h2,GridIn.app hu hm h3⟩
 | [],_::_,_,h=>h.elim|_::_,[],_,h=>h.elim
theorem E3 {h:List Ob}(hp:Hp F own w h){nx:Nat}(hn:NxOk own h nx){t t2 ty e e2:TypeId}{i:TypeInfo}{z:Value}(ht:P.underlying t=some (.slice e))(ht2:P.underlying t2=some (.slice e2))(hi:P.info? e=some i)(hz:i.zero=some z)(hsz:i.size=1)(hzs:z.cells.size=1)(hby:1<=i.bytes)
  {k:Tag} {l:List (List k.T)} {m:List k.T} {hd hd2:Hd} {id2:Nat} (hid2:own id2=some hd2) (ho2:ar h id2=.row k m) (hone:sK hd2.v=true) {K:List Nat}
  (hob:ObRel F own w hd (.grid k l)) (hd0:(hd.bs=[]/\K=[id2])\/∃ id,id≠id2/\own id=some hd/\K=[id,id2]) {u:Value} (hu:Rel F own w (.ls [.os id2]) u) (hfit:(l++[m]).length*i.bytes<=di):
  (l++[m]).length<=aI/\∃ v' hd' w',(Builtin.append_ #[t,t2] ty #[hd.v,u]).run P w=.ok v' w'/\hd'.v=v'/\sK v'=true/\Step F own w (ba h (K.map (fun id=>(id,Ob.dead))++[(nx,.grid k (l++[m]))])) (own.move K nx hd') w':=by
 have hlen:(l++[m]).length<=aI:=by
  have:(l++[m]).length<=(l++[m]).length*i.bytes:=ajr _ hby;grind [di,aI]
 refine⟨hlen,?_⟩;have h63:(l++[m]).length<=9223372036854775807:=by grind [aI]
 simp only[aiK,ais,aiI,ai2]at hlen h63 hfit;obtain⟨hd2',e0,hm⟩:=hp.at ho2 rfl;rw[hid2]at e0;cases e0;have hK2:id2∈K:=by grind
 have hK:∀ id∈K,∃ hd,own id=some hd:=by
  grind
 have hKb:∀ b∈hd.bs,∃ id∈K,∃ hd,own id=some hd/\b∈hd.bs:=by
  grind
 have hdisj:∀ b∈hd.bs,b ∉ hd2.bs:=by
  rcases hd0 with⟨h1,rfl⟩ | ⟨id,hne,h1,rfl⟩;grind
  intro b hb hb2;exact hne (hp.inj id id2 hd hd2 b h1 hid2 hb hb2)
 have hlt:∀ b∈hd.bs,b<w.heap.size:=fun b hb=>by obtain⟨id,_,hd',h1,h2⟩:=hKb b hb;exact hp.lt id hd' b h1 h2
 have hnd2:hd2.bs.Nodup:=by
  rcases hm.blocks with e| ⟨b,e⟩ <;>rw[e] <;>simp
 have hsrc:∃ a c,u=.slice a 1 c/\∀ w1:World,w1.heap=w.heap->(Builtin.firstCells i.size 1 u).run P w1=.ok #[hd2.v] w1:=by
  cases hu with
  |ls c h0 h1 h2=>
   rename_i b o cap;obtain⟨q1,q2⟩:=h1 0 _ rfl;obtain⟨hd3,q3,q4,q5⟩:=jo (h2 0 _ rfl);rw[hid2]at q3;cases q3;refine⟨_,_,rfl,fun w1 hw1=>?_⟩;have:=run_firstCells_some (P:=P) w1 i.size 1 ⟨b,o,none⟩ 1 cap [hd2.v] (by simp[hsz]) (fun j v hj=>by
    grind [pH,wG])
   omega
 obtain⟨au,cu,hue,hnews⟩:=hsrc;have fin:∀ (own':Own) (w':World),Goes F own w own' w'->(∀ b∈hd2.bs,w'.heap[b]? =w.heap[b]?)->RowRel F own' w' k m hd2.v hd2.bs:=fun own' w' g hb=>RowRel.carry g.carries hb hm;have grow:∀ (a0:Option Addr) (cap:Nat) (bs:List Nat),hd.v=.slice a0 l.length cap->cap<l.length+1->(∀ w1:World,w1.heap=w.heap->(Builtin.firstCells i.size l.length hd.v).run P w1=.ok hd.vs.toArray w1)->hd.vs.length=l.length->bs.Nodup->(∀ b∈bs,b∈hd.bs)->
   GridIn F own w k l hd.vs bs->
   ∃ v' hd' w',(Builtin.append_ #[t,t2] ty #[hd.v,u]).run P w=.ok v' w'/\hd'.v=v'/\sK v'=true/\Step F own w (ba h (K.map (fun id=>(id,Ob.dead))++[(nx,.grid k (l++[m]))])) (own.move K nx hd') w':=by
  intro a0 cap bs hv hcap holds hol hbn hbsub hgi;rw[hv]at holds;have hrun:=yH (P:=P) (ty:=ty) ht ht2 hi hz holds ⟨au,cu,hue⟩ (news:=[hd2.v]) hnews hcap h63 hfit;rw[<-hv]at hrun;have hge:=xF w (l.length+1) cap e;let cs:=hd.vs.toArray++[hd2.v].toArray++Builtin.zeroCells z.cells (grownCap w (l.length+1) cap e - (l.length+1))
  have hcs:cs.size=grownCap w (l.length+1) cap e:=by
   grind [tj]
  refine⟨_,⟨none,_,hd.vs++[hd2.v],w.heap.size::(bs++hd2.bs)⟩,_,hrun,rfl,rfl,mJ hp hn K hK _ _ (fun b hb=>?_) (fun b hb _=>?_) ?_ rfl rfl rfl fun own' g=>?_⟩;simp only[aiu,aix]at hb;rcases hb with hb|hb|hb;simp_all;grind
  grind
  exact ur w.drew _ b hb;simp_all;have hold:∀ b,b<w.heap.size->(w.drew.alloc (.cells cs e)).heap[b]? =w.heap[b]?:=fun b hb=>ur w.drew _ b hb;refine .inr ⟨w.heap.size,0,grownCap w (l.length+1) cap e,cs,e,bs++hd2.bs,by simp,rfl,?_,nO w.drew _,by omega,by grind,by grind,fun q v hq=>?_,?_⟩;rw[ai1,ajs];refine⟨fun hb=>?_,hbn,hnd2,fun a ha b hb e=>hdisj a (hbsub a ha) (e▸hb)⟩;rcases aix.1 hb with hb|hb;grind
  exact ajo _ (hp.lt id2 hd2 _ hid2 hb);grind
  exact GridIn.app hone (fin own' _ g fun b hb=>hold b (hp.lt id2 hd2 b hid2 hb)) (hgi.carry g.carries fun b hb=>hold b (hlt b (hbsub b hb)))
 rcases hob with⟨hv,rfl,hvs,hbs⟩ | ⟨b,o,cap,cs,tyb,bs,hv,hbs,hbn,h4,h5,h6,h7,h8,h9⟩;refine grow none 0 [] hv (by simp) (fun w1 _=>by simp_all [Builtin.firstCells]) (by rw[hvs];rfl) ajC (fun b hb=>by cases hb) ?_;rw[hvs];rfl;have hbn':=hbn;rw[hbs,ai1]at hbn';by_cases hroom:l.length+1<=cap
 obtain⟨cs',w',q1,q2,q3,q4⟩:=ld (P:=P) (b:=b) (o:=o+l.length*i.size) (ty:=tyb) [hd2.v] 0 w cs h4 (by grind) (fun v hv=>by simp at hv;subst hv;exact oH hone);have hrun:=yI (P:=P) (ty:=ty) ht ht2 hi (b:=b) (o:=o) (n:=l.length) (cap:=cap) (news:=[hd2.v]) ⟨au,cu,hue⟩ (hnews w rfl) hroom (w':=w') q1;have hold:∀ c,c≠b->w'.heap[c]? =w.heap[c]?:=q2.other;rw[<-hv]at hrun;refine⟨_,⟨none,_,hd.vs++[hd2.v],b::(bs++hd2.bs)⟩,w',hrun,rfl,rfl,mJ hp hn K hK _ _ (fun c hc=>?_) (fun b' hb' hn'=>q2.other b' fun e=>hn' (by grind)) (by rw[q2.size];omega) q2.os q2.tape q2.output fun own' g=>?_⟩;grind
 refine .inr ⟨b,o,cap,cs',tyb,bs++hd2.bs,by simp,rfl,?_,q2.here,by omega,by grind,by grind,fun q v hq=>?_,?_⟩;grind
 have hvl:=h9.len;rw[ajf]at hq;rw[q4,hsz];split at hq
 grind
 rename_i hlt';have:q=hd.vs.length:=by grind
 simp_all;exact GridIn.app hone (fin own' _ g fun c hc=>hold c fun e=>hdisj b (by simp[hbs]) (e▸hc)) (h9.carry g.carries fun c hc=>hold c fun e=>hbn'.1 (e▸hc));refine grow _ cap bs hv (by omega) (fun w1 hw1=>?_) h9.len hbn'.2 (fun c hc=>by grind) h9;rw[hv];refine run_firstCells_some (P:=P) w1 i.size l.length ⟨b,o,none⟩ _ cap hd.vs (by rw[h9.len,hsz,ale]) fun j v hj=>?_;grind [pH,ez]
def _root_.Go.Sx.Own.fz (own:Own)(id:Nat):Own:=fun j=>if j=id then(own j).map (fun hd=>{ hd with bs:=[]})else own j
theorem Zb {h:List Ob}(hp:Hp F own w h){id:Nat}{hd:Hd}(hid:own id=some hd){b:Nat}(hb:b∈hd.bs):¬cm F (own.fz id) b:=by
 rintro (hf| ⟨j,hj,e,hm⟩);exact hp.apart id hd b hid hb hf;simp only[Own.fz]at e;by_cases ej:j=id
 grind
 rw[if_neg ej]at e;exact ej (hp.inj j id hj hd b e hid hm hb)
theorem Zc {h:List Ob}(hp:Hp F own w h){id:Nat}{b:Nat}(hb:w.heap.size<=b):¬cm F (own.fz id) b:=by
 rintro (hf| ⟨j,hj,e,hm⟩);exact absurd (hp.foreign b hf) (by omega);simp only[Own.fz]at e;by_cases ej:j=id
 subst ej;rw[if_pos rfl]at e;cases ho:own j <;>grind;rw[if_neg ej]at e;exact absurd (hp.lt j hj b e hm) (by omega)
theorem Sf {id:Nat}{hd:Hd}(hid:own id=some hd){w':World}(hold:∀ b,b<w.heap.size->b ∉ hd.bs->w'.heap[b]? =w.heap[b]?)(hsz:w.heap.size<=w'.heap.size)(q2:w'.os=w.os)(q3:w'.tape=w.tape)(q4:w'.output=w.output):Fr { w:=w,own:=own} (own.fz id) w':=by
 refine Fr.of_step (fun j hj h1=>?_) (fun j hj b h1 h2=>?_) (fun b hb hnb=>hold b hb fun hm=>hnb ⟨id,hd,hid,hm⟩) hsz q2 q3 q4;simp only[Own.fz];by_cases e:j=id
 exact⟨{ hj with bs:=[]},by grind,rfl,rfl,rfl⟩;exact⟨hj,by grind,.refl _⟩;simp only[Own.fz]at h1;grind
theorem Ja {h:List Ob}(hp:Hp F own w h){id:Nat}{hd:Hd}(hid:own id=some hd){w':World}(ob:Ob)(fr:Fr { w:=w,own:=own} (own.fz id) w')(hold:∀ b,b<w.heap.size->b ∉ hd.bs->w'.heap[b]? =w.heap[b]?)
  (hob:ObRel F (own.fz id) w' { hd with bs:=[]} ob):Step F own w (ba h [(id,ob)]) (own.fz id) w':=by
 have hl:id<h.length:=hp.dom _ _ hid;have hat:∀ j,ar (ba h [(id,ob)]) j=if id=j then ob else ar h j:=fun j=>dv ..;have hlen:(ba h [(id,ob)]).length=h.length:=by show(bM h id ob).length=_;rw[ce,if_pos hl]
 refine⟨hp.upd fr.goes (fun j=>j=id) (by omega) (fun j hj=>?_) (fun j hj hu h1=>?_) (fun j hu _=>?_),fr,fun j h1 _=>?_⟩;refine⟨by simp[Own.fz,hj],by grind,fun hd' b h1 h2=>hold b (hp.lt j hd' b h1 h2) fun hm=>hj (hp.inj j id hd' hd b h1 hid h2 hm)⟩;subst hu;simp only[Own.fz,if_pos,hid,ajt,aip]at h1;grind
 simp_all [Own.fz];grind [Own.fz]
theorem RowAt.rs {k:Tag}{l:List k.T}{o b cap:Nat}{cs:Array Value}{ty:TypeId}(hc:l.length<=cap)(hm:l.length<=aI)(hb:¬cm F own b)(h3:w.heap[b]? =some (.cells cs ty (0,0)))(h7:RowAt F own w k l o cs):Rel F own w (.rs k l) (.slice (some ⟨b,o,none⟩) l.length cap):=by
 refine .rs (fun i j=>cs.getD (o+i*ae k+j) undef) hc hm (fun i x hi j s hj=>⟨hb,?_⟩) (fun i x hi j s hj=>?_);obtain⟨u,e1,_⟩:=h7 i x hi j s hj;rw[ez h3];simp_all;obtain⟨u,e1,e2⟩:=h7 i x hi j s hj;simp_all
theorem MM {h:List Ob}(hp:Hp F own w h){t t2 ty e e2:TypeId}{i:TypeInfo}{z:Value}(ht:P.underlying t=some (.slice e))(ht2:P.underlying t2=some (.slice e2))(hi:P.info? e=some i)(hz:i.zero=some z)(hzs:z.cells.size=i.size){k:Tag}(hk:i.size=ae k)(hby:1<=i.bytes)
  {l:List k.T} {id:Nat} {hd:Hd} (hid:own id=some hd) (hrow:RowRel F own w k l hd.v hd.bs) (hfit:(l++l).length*i.bytes<=di):
  (l++l).length<=aI/\∃ v' w',(Builtin.append_ #[t,t2] ty #[hd.v,hd.v]).run P w=.ok v' w'/\Rel F (own.fz id) w' (.rs k (l++l)) v'/\Step F own w (ba h [(id,.fz k l)]) (own.fz id) w':=by
 have hlen:(l++l).length<=aI:=by
  have:(l++l).length<=(l++l).length*i.bytes:=ajr _ hby;grind [di,aI]
 refine⟨hlen,?_⟩;have h63:(l++l).length<=9223372036854775807:=by grind [aI]
 obtain⟨news,hs⟩:=I9 (P:=P) hrow;have hsrcl:=hs.len;have hlen2:=hlen;rw[aiK]at hlen2 h63 hfit;have two:∀ (own':Own) (w':World),Goes F own w own' w'->∀ (o:Nat) (cs:Array Value),(∀ (q:Nat) (x:k.T),l[q]? =some x->∀ (j:Nat) (s:SV),(cellsOf k x)[j]? =some s->∃ u,cs[o+q*ae k+j]? =some u/\Rel F own w s u)->
   (∀ (q:Nat) (x:k.T),l[q]? =some x->∀ (j:Nat) (s:SV),(cellsOf k x)[j]? =some s->∃ u,cs[o+l.length*ae k+(q*ae k+j)]? =some u/\Rel F own w s u)->RowAt F own' w' k (l++l) o cs:=by
  intro own' w' g o cs a1 a2 q x hq j s hj;rw[ajf]at hq;split at hq
  obtain⟨u,e1,e2⟩:=a1 q x hq j s hj;exact⟨u,e1,e2.mono g⟩;rename_i hlt;obtain⟨u,e1,e2⟩:=a2 (q - l.length) x hq j s hj;refine⟨u,?_,e2.mono g⟩;have hqq:o+q*ae k+j=o+l.length*ae k+((q - l.length)*ae k+j):=by
   have:q=l.length+(q - l.length):=by omega
   grind
  simp_all
 rcases hrow with⟨a,hv,rfl,hbs⟩ | ⟨b,o,cap,cs,tyb,hv,hbs,h3,h4,h5,h6,h7⟩;have hnw:news=[]:=ajb (by simpa using hs.size);subst hnw;have hcells:=hs.cells w rfl;rw[hv]at hsrcl hcells;have hrun:=Du (P:=P) (ty:=ty) ht ht2 hi (a0:=a) (cap:=0) hsrcl (by rw[hk];exact hcells);rw[<-hv]at hrun;have fr:=Sf hid (w':=w) (fun _ _ _=>rfl) (aio _) rfl rfl rfl;exact⟨_,w,hrun,by rw[hv];exact .rs0,Ja hp hid _ fr (fun _ _ _=>rfl) (by show Rel F (own.fz id) w (.rs k []) hd.v;rw[hv];exact .rs0)⟩;have hnb:¬cm F (own.fz id) b:=Zb hp hid (by simp[hbs]);have hcells:=hs.cells;rw[hv]at hsrcl hcells;by_cases hroom:l.length+l.length<=cap
 have hfits:o+l.length*ae k+news.length<=cs.size:=by
  rw[hs.size];have:(l.length+l.length)*ae k<=cap*ae k:=aiD _ hroom;grind
 obtain⟨cs',w',q1,q2,q3,q4⟩:=ld (P:=P) (b:=b) (o:=o+l.length*ae k) (ty:=tyb) news 0 w cs h3 (by omega) hs.one;have hrun:=yI (P:=P) (ty:=ty) ht ht2 hi (b:=b) (o:=o) (n:=l.length) (cap:=cap) hsrcl (by rw[hk];exact hcells w rfl) hroom (w':=w') (by grind);rw[<-hv]at hrun;have hold:∀ b',b'<w.heap.size->b' ∉ hd.bs->w'.heap[b']? =w.heap[b']?:=fun b' _ hn=>q2.other b' fun e=>hn (by grind);have fr:=Sf hid hold (by rw[q2.size];omega) q2.os q2.tape q2.output;have hat:=two _ _ fr.goes o cs' (fun q x hq j s hj=>by
   obtain⟨u',e1,e2⟩:=h7 q x hq j s hj;refine⟨u',?_,e2⟩;have hjl:j<ae k:=by grind [bv]
   have hlt:=(aiq.1 hq).1;have:(q+1)*ae k<=l.length*ae k:=aiD _ hlt;grind) (fun q x hq j s hj=>by
   obtain⟨u',e1,e2⟩:=hs.rel q x hq j s hj;refine⟨u',?_,e2⟩;have hb:=(aiq.1 e1).1;simp_all)
 refine⟨_,w',hrun,?_,Ja hp hid _ fr hold ?_⟩;have:=RowAt.rs (cap:=cap) (by grind) hlen hnb q2.here hat;grind
 show Rel F (own.fz id) w' (.rs k l) hd.v;rw[hv];exact RowAt.rs h5 h6 hnb q2.here fun q x hq=>hat q x (by grind);have hrun:=yH (P:=P) (ty:=ty) (a0:=some ⟨b,o,none⟩) (n:=l.length) (olds:=news) ht ht2 hi hz (fun w1 hw1=>by rw[hk];exact hcells w1 hw1) hsrcl (by rw[hk];exact hcells) (by omega) h63 hfit;rw[<-hv]at hrun;have hge:=xF w (l.length+l.length) cap e;let cs2:=news.toArray++news.toArray++Builtin.zeroCells z.cells (grownCap w (l.length+l.length) cap e - (l.length+l.length))
 have hold:∀ b',b'<w.heap.size->(w.drew.alloc (.cells cs2 e)).heap[b']? =w.heap[b']?:=fun b' hb'=>ur w.drew _ b' hb';have fr:=Sf hid (w':=w.drew.alloc (.cells cs2 e)) (fun b' hb' _=>hold b' hb') (by grind) rfl rfl rfl;have hat:=two _ _ fr.goes 0 cs2 (fun q x hq j s hj=>by
   obtain⟨u',e1,e2⟩:=hs.rel q x hq j s hj;grind) (fun q x hq j s hj=>by
   obtain⟨u',e1,e2⟩:=hs.rel q x hq j s hj;refine⟨u',?_,e2⟩;have hb:=(aiq.1 e1).1;have hsz:=hs.size;rw[ai2,<-hsz];simp only[cs2];simp_all [aiS])
 refine⟨_,_,hrun,?_,Ja hp hid _ fr (fun b' hb' _=>hold b' hb') ?_⟩;have:=RowAt.rs (cap:=grownCap w (l.length+l.length) cap e) (by grind) hlen (Zc hp (id:=id) (aio _)) (nO w.drew _) hat;grind
 show Rel F (own.fz id) _ (.rs k l) hd.v;rw[hv];refine RowAt.rs h5 h6 hnb (by rw[hold b (qC h3)];exact h3) fun q x hq j s hj=>?_;obtain⟨u',e1,e2⟩:=h7 q x hq j s hj;exact⟨u',e1,e2.mono fr.goes⟩
def Dv (F:Nat->Prop)(own:Own)(w:World)(h:List Ob)(run:Result Value)(r:OR):Prop:=
 ∃ c a ups s,r=.eff c a ups s/\(c->a/\∃ u own' w',run=.ok u w'/\Rel F own' w' s u/\Step F own w (ba h ups) own' w')
theorem Eb {h:List Ob}(hp:Hp F own w h){nx:Nat}(hn:NxOk own h nx){t t2 ty:TypeId}{ti ti2 te:TI}(ht:cw P t=some ti)(ht2:cw P t2=some ti2)(hte:cw P ti.elem=some te)(hsl:ti.isSlice=true)(hsl2:ti2.isSlice=true)
  {k:Tag} {l:List k.T} {v u:Value} {bs:List Nat} (hrow:RowRel F own w k l v bs) {K:List Nat} (hK:∀ id∈K,∃ hd,own id=some hd) (hKb:∀ b∈bs,∃ id∈K,∃ hd,own id=some hd/\b∈hd.bs) (hKo:∀ id∈K,∀ hd,own id=some hd->∀ b∈hd.bs,b∈bs) {src:SV} (hsrc:Rel F own w src u) {r:OR} (he:xw te nx (K.map fun id=>(id,Ob.dead)) h src (.row k l)=r) (hne:r≠ .bad):
  Dv F own w h ((Builtin.append_ #[t,t2] ty #[v,u]).run P w) r:=by
 obtain⟨i,d,z,hi,hd,hz,hq,rfl⟩:=bJ ht;obtain⟨i2,d2,z2,hi2,hd2,hz2,hq2,rfl⟩:=bJ ht2;obtain⟨ie,de,ze,hie,hde,hze,hqe,hte'⟩:=bJ hte;cases d <;>simp[dN]at hsl;cases d2 <;>simp[dN]at hsl2;rename_i e e2;simp only[dN]at hie;simp only[xw]at he;cases hc:Nat.beq te.size (ae k)&&Nat.beq (sz te.zero) te.size&&Nat.ble 1 te.bytes with
 |false=>grind
 |true=>
  rw[hc]at he;simp only[cond_true]at he;cases hs:vj k h src with
  |none=>rw[hs]at he;exact absurd he.symm hne
  |some m=>
   rw[hs]at he;simp only[RP]at he;subst he;simp only[aim,tJ]at hc;have hes:te.size=ie.size:=by rw[hte'];rfl
   have heb:te.bytes=ie.bytes:=by rw[hte'];rfl
   have hez:te.zero=svs ze:=by simp_all [dN]
   have c1:=ain hc.1.1;have c2:=ain hc.1.2;have c3:=nbl hc.2;obtain⟨news,hsr⟩:=I_ (P:=P) hp hsrc hs;refine⟨_,_,_,_,rfl,fun hfit=>?_⟩;obtain⟨q1,v',hd',w',q2,q3,q4,q5⟩:=HD (P:=P) (ty:=ty) hp hn hd hd2 hie hze (by grind [svs]) (k:=k) (by omega) (by omega) (.inl hrow) hK hKb hKo hsr (by grind);refine⟨q1,v',_,w',q2,?_,q5⟩;rw[<-q3];exact .os (by simp[Own.move]) (by grind)
theorem VQ {h:List Ob}(hp:Hp F own w h){nx:Nat}(hn:NxOk own h nx){t t2 ty:TypeId}{ti ti2 te:TI}(ht:cw P t=some ti)(ht2:cw P t2=some ti2)(hte:cw P ti.elem=some te)(hsl:ti.isSlice=true)(hsl2:ti2.isSlice=true)
  {l:List SV} {vs:Array Value} (hl:RelL F own w l vs) {r:OR} (he:o6 te nx h l=r) (hne:r≠ .bad):Dv F own w h ((Builtin.append_ #[t,t2] ty vs).run P w) r:=by
 have two:∀ (d s:SV),l=[d,s]->∃ vd vu,vs= #[vd,vu]/\Rel F own w d vd/\Rel F own w s vu:=by
  rintro d s rfl;obtain⟨⟨a⟩⟩:=vs;exact absurd hl.1 (by simp);rename_i x xs;cases xs with
  |nil=>exact absurd hl.1 (by simp)
  |cons y ys=>
   cases ys with
   |nil=>exact⟨x,y,rfl,by simpa using hl.2 0 _ rfl,by simpa using hl.2 1 _ rfl⟩
   |cons _ _=>exact absurd hl.1 (by simp)
 have grid:∀ (e e2:TypeId) (ie:TypeInfo) (ze:Value),P.underlying t=some (.slice e)->P.underlying t2=some (.slice e2)->P.info? e=some ie->ie.zero=some ze->te.size=ie.size->te.bytes=ie.bytes->te.zero=svs ze->True:=fun _ _ _ _ _ _ _ _ _ _ _=>trivial;obtain⟨i,d,z,hi,hd,hz,hq,hti⟩:=bJ ht;obtain⟨i2,d2,z2,hi2,hd2,hz2,hq2,hti2⟩:=bJ ht2;obtain⟨ie,de,ze,hie,hde,hze,hqe,hte'⟩:=bJ hte;have hes:te.size=ie.size:=by rw[hte'];rfl
 have heb:te.bytes=ie.bytes:=by rw[hte'];rfl
 have hez:te.zero=svs ze:=by simp_all [dN]
 have hsle:∃ e,d=.slice e/\P.info? e=some ie:=by
  subst hti;cases d <;>simp[dN]at hsl;grind [dN]
 have hsle2:∃ e,d2=.slice e:=by
  subst hti2;cases d2 <;>simp[dN]at hsl2;grind
 obtain⟨e,rfl,hie'⟩:=hsle;obtain⟨e2,rfl⟩:=hsle2;unfold o6 at he;split at he
 ·rename_i id id2;obtain⟨vd,vu,rfl,hvd,hvu⟩:=two _ _ rfl;cases hc:Nat.beq te.size 1&&Nat.beq (sz te.zero) 1&&Nat.ble 1 te.bytes&& !(Nat.beq id id2)with
  |false=>grind
  |true=>
   rw[hc]at he;simp only[cond_true]at he;simp only[aim,tJ,aiE]at hc;have c1:=ain hc.1.1.1;have c2:=ain hc.1.1.2;have c3:=nbl hc.1.2;have hne2:id≠id2:=fun e=>by simp_all
   cases ho:ar h id with
   |grid k l=>
    rw[ho]at he;simp only[Dl]at he;cases ho2:ar h id2 with
    |row k' m'=>
     rw[ho2]at he;simp only[P6]at he;cases hcast:Ae k k' m' with
     |none=>rw[hcast]at he;exact absurd he.symm hne
     |some m=>
      obtain⟨ek,rfl⟩:=uv hcast;subst ek;rw[hcast]at he;simp only[EL]at he;subst he;obtain⟨hdd,h1,rfl,h2⟩:=jo hvd;obtain⟨hd',e0,e1⟩:=hp.at ho rfl;rw[h1]at e0;cases e0;have h2id:∃ hd2,own id2=some hd2/\sK hd2.v=true:=by
       cases hvu with
       |ls c h0 q1 q2=>obtain⟨hd3,q3,q4,q5⟩:=jo (q2 0 _ rfl);grind
      obtain⟨hdd2,h3,h4⟩:=h2id;refine⟨_,_,_,_,rfl,fun hfit=>?_⟩;obtain⟨q1,v',hd',w',q2,q3,q4,q5⟩:=E3 (P:=P) (ty:=ty) hp hn hd hd2 hie' hze (by omega) (by grind [svs]) (by omega) h3 ho2 h4 e1 (.inr ⟨id,hne2,h1,rfl⟩) hvu (by grind);refine⟨q1,v',_,w',q2,?_,q5⟩;rw[<-q3];exact .os (by simp[Own.move]) (by grind)
    |_=>rw[ho2]at he;exact absurd he.symm hne
   |_=>rw[ho]at he;exact absurd he.symm hne
 ·rename_i id2;obtain⟨vd,vu,rfl,hvd,hvu⟩:=two _ _ rfl;cases hc:Nat.beq te.size 1&&Nat.beq (sz te.zero) 1&&Nat.ble 1 te.bytes with
  |false=>grind
  |true=>
   rw[hc]at he;simp only[cond_true]at he;simp only[aim,tJ]at hc;have c1:=ain hc.1.1;have c2:=ain hc.1.2;have c3:=nbl hc.2;cases ho2:ar h id2 with
   |row k m=>
    rw[ho2]at he;simp only[RQ,EL]at he;subst he;have:=bR hvd;subst this;have h2id:∃ hd2,own id2=some hd2/\sK hd2.v=true:=by
     cases hvu with
     |ls c h0 q1 q2=>obtain⟨hd3,q3,q4,q5⟩:=jo (q2 0 _ rfl);grind
    obtain⟨hdd2,h3,h4⟩:=h2id;refine⟨_,_,_,_,rfl,fun hfit=>?_⟩;obtain⟨q1,v',hd',w',q2,q3,q4,q5⟩:=E3 (P:=P) (ty:=ty) (l:=[]) (hd:=⟨none,.slice none 0 0,[],[]⟩) hp hn hd hd2 hie' hze (by omega) (by grind [svs]) (by omega) h3 ho2 h4 (.inl ⟨rfl,rfl,rfl,rfl⟩) (.inl ⟨rfl,rfl⟩) hvu (by grind);refine⟨q1,v',_,w',q2,?_,q5⟩;rw[<-q3];exact .os (by simp[Own.move]) (by grind)
   |_=>rw[ho2]at he;exact absurd he.symm hne
 rename_i id id2;obtain⟨vd,vu,rfl,hvd,hvu⟩:=two _ _ rfl;obtain⟨hdd,h1,rfl,h2⟩:=jo hvd;cases heq:Nat.beq id id2 with
 |true=>
  have hids:=ain heq;subst hids;rw[heq]at he;simp only[cond_true]at he;obtain⟨hdd',h1',rfl,_⟩:=jo hvu;rw[h1]at h1';cases h1';cases ho:ar h id with
  |row k l=>
   rw[ho]at he;simp only[RR]at he;obtain⟨hd',e0,e1⟩:=hp.at ho rfl;rw[h1]at e0;cases e0;cases hc:Nat.beq te.size (ae k)&&Nat.beq (sz te.zero) te.size&&Nat.ble 1 te.bytes with
   |false=>grind
   |true=>
    rw[hc]at he;simp only[cond_true]at he;subst he;simp only[aim,tJ]at hc;have c1:=ain hc.1.1;have c2:=ain hc.1.2;have c3:=nbl hc.2;refine⟨_,_,_,_,rfl,fun hfit=>?_⟩;obtain⟨q1,v',w',q2,q3,q4⟩:=MM (P:=P) (ty:=ty) hp hd hd2 hie' hze (by grind [svs]) (k:=k) (by omega) (by omega) h1 e1 (by grind);grind
  |_=>rw[ho]at he;simp[RR]at he;exact absurd he.symm hne
 |false=>
  rw[heq]at he;simp only[cond_false]at he;cases ho:ar h id with
  |row k l=>
   rw[ho]at he;obtain⟨hd',e0,e1⟩:=hp.at ho rfl;rw[h1]at e0;cases e0;exact Eb (P:=P) (K:=[id]) hp hn ht ht2 hte hsl hsl2 e1 (by grind) (fun b hb=>⟨id,by simp,hdd,h1,hb⟩) (fun id' hid hd' hh b hb=>by grind) hvu he hne
  |_=>rw[ho]at he;simp[xw]at he;exact absurd he.symm hne
 rename_i id src _ _;obtain⟨vd,vu,rfl,hvd,hvu⟩:=two _ _ rfl;obtain⟨hdd,h1,rfl,h2⟩:=jo hvd;cases ho:ar h id with
 |row k l=>
  rw[ho]at he;obtain⟨hd',e0,e1⟩:=hp.at ho rfl;rw[h1]at e0;cases e0;exact Eb (P:=P) (K:=[id]) hp hn ht ht2 hte hsl hsl2 e1 (by grind) (fun b hb=>⟨id,by simp,hdd,h1,hb⟩) (fun id' hid hd' hh b hb=>by grind) hvu he hne
 |_=>rw[ho]at he;simp[xw]at he;exact absurd he.symm hne
 obtain⟨vd,vu,rfl,hvd,hvu⟩:=two _ _ rfl;have:=bR hvd;subst this;unfold xx at he;split at he
 rename_i k _;exact Eb (P:=P) (K:=[]) (l:=[]) (bs:=[]) hp hn ht ht2 hte hsl hsl2 (.inl ⟨none,rfl,rfl,rfl⟩) (by simp) (fun b hb=>by cases hb) (fun id hid=>by cases hid) hvu he hne;grind
 obtain⟨vd,vu,rfl,hvd,hvu⟩:=two _ _ rfl;cases hvd with
 |e0=>
  unfold xx at he;split at he
  rename_i k _;exact Eb (P:=P) (K:=[]) (l:=[]) (bs:=[]) hp hn ht ht2 hte hsl hsl2 (.inl ⟨_,rfl,rfl,rfl⟩) (by simp) (fun b hb=>by cases hb) (fun id hid=>by cases hid) hvu he hne;grind
 rename_i k l src;obtain⟨vd,vu,rfl,hvd,hvu⟩:=two _ _ rfl;cases hvd with
 |rc hvd=>
  unfold P7 at he;cases hc:Nat.beq te.size (ae k)&&Nat.beq (sz te.zero) te.size&&Nat.ble 1 te.bytes with
  |false=>grind
  |true=>
   rw[hc]at he;simp only[cond_true]at he;cases hs:vj k h src with
   |none=>rw[hs]at he;exact absurd he.symm hne
   |some m=>
    cases m with
    |nil=>rw[hs]at he;exact absurd he.symm hne
    |cons x m=>
     rw[hs]at he;simp only[Kr]at he;subst he;simp only[aim,tJ]at hc;have c1:=ain hc.1.1;have c2:=ain hc.1.2;have c3:=nbl hc.2;obtain⟨news,hsr⟩:=I_ (P:=P) hp hvu hs;obtain⟨olds,hol⟩:=I_ (P:=P) hp hvd (k:=k) (m:=l) (by simp[vj,Ae]);refine⟨_,_,_,_,rfl,fun hfit=>?_⟩;obtain⟨q1,v',hd',w',q2,q3,q4,q5⟩:=HD (P:=P) (ty:=ty) (K:=[]) (bs:=[]) hp hn hd hd2 hie' hze (by grind [svs]) (k:=k) (by omega) (by omega) (.inr ⟨rfl,by simp,⟨_,rfl⟩,olds,hol⟩) (by simp) (fun b hb=>by cases hb) (fun id hid=>by cases hid) hsr (by grind);refine⟨q1,v',_,w',q2,?_,q5⟩;rw[<-q3];exact .os (by simp[Own.move]) (by grind)
 grind
end
section
variable {P:Program}{F:Nat->Prop}{own:Own}{w:World}
theorem MN:∀ {l m:List SV},xu l m=true->∀ {vs:Array Value},RelL F own w m vs->RelL F own w l vs:=by
 have one:∀ {a b:SV} {v:Value},NX a b=true->Rel F own w b v->Rel F own w a v:=by
  intro a b v h hr;unfold NX at h;split at h
  rename_i k x k' y;simp only[aim]at h;have hk:=Mz h.1;grind
  simp_all;exact hr;have:=bR hr;subst this;exact .rs0;have:=bR hr;subst this;exact .rm0;exact hr;cases h
 intro l m h vs hr;have len:∀ {l m:List SV},xu l m=true->l.length=m.length:=by
  intro l;induction l with
  |nil=>grind [xu]
  |cons a l ih=>intro m h;cases m with
   |nil=>simp[xu]at h|cons b m=>grind [xu]
 have get:∀ {l m:List SV} (j:Nat) (s:SV),xu l m=true->l[j]? =some s->∃ b,m[j]? =some b/\NX s b=true:=by
  intro l;induction l with
  |nil=>grind
  |cons a l ih=>
   intro m j s h hs;cases m with
   |nil=>grind
   |cons b m=>
    grind [xu]
 refine⟨by rw[len h];exact hr.1,fun j s hs=>?_⟩;obtain⟨b,h1,h2⟩:=get j s h hs;exact one h2 (hr.2 j b h1)
theorem Of {a b:Bool}(h:Cu a b=true):a=b:=by cases a <;>cases b <;>simp[Cu]at h |-
theorem CB {t:TypeId}{i:TypeInfo}{k:Tag}(h:Ad P t i=some k):ED P t i k=true:=by
 grind [Ad]
theorem Bz {t:TypeId}{i:TypeInfo}{k:Tag}(h:Ad P t i=some k):i.size=ae k/\1<=i.bytes/\lY P t=qz k/\∀ z,i.zero=some z->RelL F own w (cellsOf k (gz k)) z.cells/\EC z=qz k:=by
 have hf:=CB h;simp only[ED,aim]at hf;refine⟨ain hf.1.1.1.2,nbl hf.1.1.2,Of hf.2,fun z hz=>?_⟩;have h1:=hf.1.2;have h2:=hf.1.1.1.1;rw[hz]at h1 h2;exact⟨MN h1 (zD z),Of h2⟩
theorem CC {t:TypeId}{k:Tag}(h:Kj P t=some k):∃ i,P.info? t=some i/\Ad P t i=some k:=by
 grind [Kj]
theorem AL {d:Int}{o:Option SV}{v:Option Value}(hv:∀ s,o=some s->∃ u,v=some u/\Rel F own w s u)(hn:o=none->v=none){n:Int}(h:bnd d o=some n):(v=none/\n=d)\/∃ k,v=some (.int k n):=by
 unfold bnd at h;split at h
 grind
 rename_i k m;simp at h;subst h;obtain⟨u,h1,h2⟩:=hv _ rfl;have:=bR h2;grind
 cases h
theorem pn {k:IntKind}{n:Int}{y:Nat}{code:BoundsCode}(h:0<=n/\n<=(y:Int)):(Instr.sliceBound (.int k n) y code).run P w=.ok n.toNat w:=by
 simp_all [Instr.sliceBound,vB]
theorem lf {len cap:Nat}{lo hi:Option Value}{a b:Int}(hlo:(lo=none/\a=0)\/∃ k,lo=some (.int k a))(hhi:(hi=none/\b=(len:Int))\/∃ k,hi=some (.int k b))(h:0<=a/\a<=b/\b<=(len:Int))(hc:len<=cap):
  (Instr.sliceBounds true len cap lo hi none).run P w=.ok (a.toNat,b.toNat,cap) w:=by
 rcases hhi with⟨rfl,rfl⟩ | ⟨k2,rfl⟩ <;>rcases hlo with⟨rfl,rfl⟩ | ⟨k1,rfl⟩;simp[Instr.sliceBounds];simp[Instr.sliceBounds,pn (P:=P) (w:=w) (k:=k1) (n:=a) (y:=len) ⟨h.1,h.2.1⟩];simp[Instr.sliceBounds,pn (P:=P) (w:=w) (k:=k2) (n:=b) (y:=cap) ⟨by omega,by omega⟩];simp[Instr.sliceBounds,pn (P:=P) (w:=w) (k:=k2) (n:=b) (y:=cap) ⟨by omega,by omega⟩,pn (P:=P) (w:=w) (k:=k1) (n:=a) (y:=b.toNat) ⟨h.1,by omega⟩]
theorem Qv {h:List Ob}(hp:Hp F own w h){nx:Nat}(hn:NxOk own h nx){t:TypeId}{ti te:TI}(ht:cw P t=some ti)(hte:cw P ti.elem=some te){s:SV}{v:Value}(hr:Rel F own w s v){lo hi:Option SV}{vlo vhi:Option Value}
  (h1:∀ s,lo=some s->∃ u,vlo=some u/\Rel F own w s u) (h1':lo=none->vlo=none) (h2:∀ s,hi=some s->∃ u,vhi=some u/\Rel F own w s u) (h2':hi=none->vhi=none) {r:OR} {vq:Bool} (hvq:vq=true->hi=none) (he:o7 ti te.size nx h lo hi vq s=r) (hne:r≠ .bad):
  (∃ c s',r=.chk c s'/\(c->∃ u,(Instr.sliceAt t v vlo vhi none).run P w=.ok u w/\Rel F own w s' u))\/Dv F own w h ((Instr.sliceAt t v vlo vhi none).run P w) r:=by
 obtain⟨i,d,z,hi',hd,hz,hq,rfl⟩:=bJ ht;obtain⟨ie,de,ze,hie,hde,hze,hqe,hte'⟩:=bJ hte;have hes:te.size=ie.size:=by rw[hte'];rfl
 have slice:(dN P t i d).isSlice=true->∃ e,d=.slice e/\P.info? e=some ie:=fun hs=>by
  cases d <;>simp[dN]at hs;grind [dN]
 cases hr with
 |rs cf q0 q0' q1 q2=>
  rename_i k l b o cap;left;simp only[o7]at he;cases hb:(dN P t i d).isSlice&&Nat.beq te.size (ae k)with
  |false=>grind
  |true=>
   rw[hb]at he;simp only[cond_true]at he;simp only[aim]at hb;obtain⟨e,rfl,hie'⟩:=slice hb.1;have hsz:=ain hb.2;unfold RS at he;split at he
   rename_i a c ha hc;refine⟨_,_,he.symm,fun hcnd=>?_⟩;have b1:=AL h1 h1' ha;have b2:=AL h2 h2' hc;have hbd:=lf (P:=P) (w:=w) b1 b2 hcnd q0;have hlen:((l.take c.toNat).drop a.toNat).length=c.toNat - a.toNat:=by simp;omega
   refine⟨.slice (if cap=a.toNat then some ⟨b,o,none⟩else some ⟨b,o+a.toNat*ie.size,none⟩) (c.toNat - a.toNat) (cap - a.toNat),?_,?_⟩;simp only[Instr.sliceAt,Instr.slice,aiJ,run_underlying hd,aiA,hbd,dQ hie',ajx,ajt,pH];rw[<-hlen];by_cases hca:cap=a.toNat
   have:(l.take c.toNat).drop a.toNat=[]:=ajb (by omega);rw[this];exact .rs0;rw[if_neg hca];refine Rel.rs (F:=F) (own:=own) (w:=w) (fun i j=>cf (a.toNat+i) j) (by omega) (by omega) (fun i x hx j s hj=>?_) (fun i x hx j s hj=>?_);obtain⟨e1,e2⟩:=wc hx;have:=q1 _ x e1 j s hj;rw[<-hes,hsz,show o+a.toNat*ae k+i*ae k+j=o+(a.toNat+i)*ae k+j by grind];exact this;grind
   grind
 |rs0=>
  rename_i k a0 cap;left;simp only[o7]at he;cases hb:(dN P t i d).isSlice&&Nat.beq te.size (ae k)with
  |false=>grind
  |true=>
   rw[hb]at he;simp only[cond_true]at he;simp only[aim]at hb;obtain⟨e,rfl,hie'⟩:=slice hb.1;unfold RS at he;split at he
   rename_i a c ha hc;refine⟨_,_,he.symm,fun hcnd=>?_⟩;have b1:=AL h1 h1' ha;have b2:=AL h2 h2' hc;have hbd:=lf (P:=P) (w:=w) (cap:=cap) b1 b2 hcnd (aiX _);simp only[aiI,akq]at hcnd;have ea:a=0:=by omega
   have ec:c=0:=by omega
   subst ea;subst ec;refine⟨_,by
    simp only[Instr.sliceAt,Instr.slice,aiJ,run_underlying hd,aiA];simp only[aiI,ajY]at hbd;simp only[hbd,aiA,aiJ,dQ hie',ajx];rfl,?_⟩
   simp only[List.take_nil,List.drop_nil];exact .rs0;grind
 |os g1 g2=>
  rename_i id hdd;simp only[o7]at he;cases hb:(dN P t i d).isSlice with
  |false=>grind
  |true=>
   rw[hb]at he;simp only[cond_true]at he;obtain⟨e,rfl,hie'⟩:=slice hb;cases vq with
   |true=>
    left;simp only[cond_true]at he;cases ho:ar h id with
    |row k l=>
     rw[ho]at he;simp only[N4]at he;cases hb2:Nat.beq te.size (ae k)with
     |false=>grind
     |true=>
      rw[hb2]at he;simp only[cond_true]at he;unfold RU at he;split at he
      rename_i a ha;refine⟨_,_,he.symm,fun hcnd=>?_⟩;obtain⟨hd',e0,e1⟩:=hp.at ho rfl;rw[g1]at e0;cases e0;have b1:=AL h1 h1' ha;have b2:(vhi=none/\(l.length:Int)=(l.length:Int))\/∃ k,vhi=some (.int k (l.length:Int)):=.inl ⟨h2' (hvq rfl),rfl⟩;have hcnd':0<=a/\a<=(l.length:Int)/\(l.length:Int)<=(l.length:Int):=⟨hcnd.1,hcnd.2,ajc _⟩;rcases e1 with⟨a0,m1,rfl,m3⟩ | ⟨b,o,cap,cs,ty,m1,m2,m3,m4,m5,m6,m7⟩;simp only[aiI,akq]at hcnd;have ea:a=0:=by omega
      subst ea;have hbd:=lf (P:=P) (w:=w) (cap:=0) b1 b2 hcnd' (aiX _);simp only[aiI,ajY,akq]at hbd;refine⟨.slice a0 0 0,?_,Rel.vw (lo:=0) (hi:=(([]:List k.T).length:Int)) (cap:=0) (a:=a0) g1 (.inl (by simp)) (by simp)⟩;simp_all [Instr.sliceAt,Instr.slice,run_underlying,dQ];have hbd:=lf (P:=P) (w:=w) b1 b2 hcnd' m5;refine⟨.slice (if cap=a.toNat then some ⟨b,o,none⟩else some ⟨b,o+a.toNat*ie.size,none⟩) ((l.length:Int).toNat - a.toNat) (cap - a.toNat),?_,Rel.vw g1 ?_ (by omega)⟩;rw[m1];simp only[Instr.sliceAt,Instr.slice,aiJ,run_underlying hd,aiA,hbd,dQ hie',ajx,ajt,pH];by_cases hca:cap=a.toNat
      exact .inl (by omega);rw[if_neg hca];exact .inr ⟨b,o,_,cap,m1,by omega,by rw[hes]⟩;grind
    |_=>rw[ho]at he;exact absurd he.symm hne
   |false=>
   right;simp only[cond_false]at he;cases ho:ar h id with
   |row k l=>
    rw[ho]at he;simp only[RT]at he;cases hb2:Nat.beq te.size (ae k)with
    |false=>grind
    |true=>
     rw[hb2]at he;simp only[cond_true]at he;have hsz:=ain hb2;unfold VG at he;split at he
     rename_i a c ha hc;subst he;obtain⟨hd',e0,e1⟩:=hp.at ho rfl;rw[g1]at e0;cases e0;have b1:=AL h1 h1' ha;have b2:=AL h2 h2' hc;refine⟨_,_,_,_,rfl,fun hcnd=>⟨trivial,?_⟩⟩;have hK:∀ id'∈[id],∃ hd,own id'=some hd:=by grind
     have hlen:((l.take c.toNat).drop a.toNat).length=c.toNat - a.toNat:=by simp;omega
     rcases e1 with⟨a0,m1,rfl,m3⟩ | ⟨b,o,cap,cs,ty,m1,m2,m3,m4,m5,m6,m7⟩;simp only[aiI,akq]at hcnd;have ea:a=0:=by omega
     have ec:c=0:=by omega
     subst ea;subst ec;have hbd:=lf (P:=P) (w:=w) (cap:=0) b1 b2 hcnd (aiX _);simp only[aiI,ajY]at hbd;refine⟨.slice a0 0 0,_,w,?_,?_,mJ hp hn [id] hK ⟨none,.slice a0 0 0,[],[]⟩ _ (fun b hb=>by simp at hb) (fun _ _ _=>rfl) (aio _) rfl rfl rfl fun own' g=>.inl ⟨a0,rfl,rfl,rfl⟩⟩;simp_all [Instr.sliceAt,Instr.slice,run_underlying,dQ];have:=Rel.os (F:=F) (own:=own.move [id] nx ⟨none,.slice a0 0 0,[],[]⟩) (w:=w) (id:=nx) (hd:=⟨none,.slice a0 0 0,[],[]⟩) (by simp[Own.move]) rfl;exact this;have hbd:=lf (P:=P) (w:=w) b1 b2 hcnd m5;have hrun:(Instr.sliceAt t hdd.v vlo vhi none).run P w=.ok (.slice (if cap=a.toNat then some ⟨b,o,none⟩else some ⟨b,o+a.toNat*ie.size,none⟩) (c.toNat - a.toNat) (cap - a.toNat)) w:=by
      rw[m1];simp only[Instr.sliceAt,Instr.slice,aiJ,run_underlying hd,aiA,hbd,dQ hie',ajx,ajt,pH]
     by_cases hca:cap=a.toNat
     have hnil:(l.take c.toNat).drop a.toNat=[]:=ajb (by omega);rw[if_pos hca,show c.toNat - a.toNat=0 by omega,show cap - a.toNat=0 by omega]at hrun;refine⟨_,_,w,hrun,?_,mJ hp hn [id] hK ⟨none,.slice (some ⟨b,o,none⟩) 0 0,[],[]⟩ _ (fun b hb=>by simp at hb) (fun _ _ _=>rfl) (aio _) rfl rfl rfl fun own' g=>.inl ⟨_,rfl,hnil,rfl⟩⟩;exact Rel.os (F:=F) (own:=own.move [id] nx ⟨none,.slice (some ⟨b,o,none⟩) 0 0,[],[]⟩) (w:=w) (id:=nx) (hd:=⟨none,.slice (some ⟨b,o,none⟩) 0 0,[],[]⟩) (by simp[Own.move]) rfl;rw[if_neg hca,<-hlen]at hrun;refine⟨_,_,w,hrun,Rel.os (F:=F) (own:=own.move [id] nx ⟨none,.slice (some ⟨b,o+a.toNat*ie.size,none⟩) ((l.take c.toNat).drop a.toNat).length (cap - a.toNat),[],[b]⟩) (w:=w) (id:=nx) (hd:=⟨none,.slice (some ⟨b,o+a.toNat*ie.size,none⟩) ((l.take c.toNat).drop a.toNat).length (cap - a.toNat),[],[b]⟩) (by simp[Own.move]) rfl,mJ hp hn [id] hK _ _ (fun b' hb'=>by grind) (fun _ _ _=>rfl) (aio _) rfl rfl rfl fun own' g=>.inr ⟨b,o+a.toNat*ie.size,cap - a.toNat,cs,ty,rfl,rfl,m3,?_,by omega,by omega,fun i x hx j s hj=>?_⟩⟩;rw[<-hes,hsz];have:cap*ae k=a.toNat*ae k+(cap - a.toNat)*ae k:=by rw[<-ald];grind
     omega;obtain⟨e1,e2⟩:=wc hx;obtain⟨u,n1,n2⟩:=m7 _ x e1 j s hj;refine⟨u,?_,n2.mono g⟩;grind
     grind
   |_=>rw[ho]at he;exact absurd he.symm hne
 |_=>simp only[o7]at he;exact absurd he.symm hne
theorem Sg {t:TypeId}{ti te:TI}(ht:cw P t=some ti)(hte:cw P ti.elem=some te){s sm:SV}{v vm:Value}(hr:Rel F own w s v)(hm:Rel F own w sm vm){lo hi:Option SV}{vlo vhi:Option Value}
  (h1':lo=none->vlo=none) (h2:∀ s,hi=some s->∃ u,vhi=some u/\Rel F own w s u) {r:OR} (he:EN ti lo hi sm s=r) (hne:r≠ .bad):
  ∃ c s',(r=.val s'/\c\/r=.chk c s')/\(c->∃ u,(Instr.sliceAt t v vlo vhi (some vm)).run P w=.ok u w/\Rel F own w s' u):=by
 obtain⟨i,d,z,hi',hd,hz,hq,rfl⟩:=bJ ht;obtain⟨ie,de,ze,hie,hde,hze,hqe,hte'⟩:=bJ hte;have slice:(dN P t i d).isSlice=true->∃ e,d=.slice e/\P.info? e=some ie:=fun hs=>by
  cases d <;>simp[dN]at hs;grind [dN]
 unfold EN at he;split at he
 ·rename_i k l;unfold X0 at he;split at he
  ·rename_i a b;cases hb:(dN P t i d).isSlice with
   |false=>grind
   |true=>
    rw[hb]at he;simp only[cond_true]at he;obtain⟨e,rfl,hie'⟩:=slice hb;obtain⟨u,rfl,e3⟩:=h2 _ rfl;obtain rfl:=h1' rfl;obtain rfl:=bR hm;obtain rfl:=bR e3;refine⟨_,_,.inr he.symm,fun⟨ha,hb⟩ =>?_⟩;subst ha;subst hb;have hcap:∃ a cap,v=.slice a l.length cap/\l.length<=cap/\Rel F own w (.rs k l) (.slice a l.length l.length):=by
     cases hr with
     |rs c q0 q0' q1 q2=>exact⟨_,_,rfl,q0,.rs c (aio _) q0' q1 q2⟩|rs0=>exact⟨_,_,rfl,aiX _,.rs0⟩
    obtain⟨a,cap,rfl,hcl,hrel⟩:=hcap;have hbd:(Instr.sliceBounds true l.length cap none (some (.int .i64 l.length)) (some (.int .i64 l.length))).run P w=.ok (0,l.length,l.length) w:=by
     simp_all [Instr.sliceBounds,pn]
    refine⟨.slice a l.length l.length,?_,.rc hrel⟩;simp_all [Instr.sliceAt,Instr.slice,run_underlying,dQ,Addr.add]
  grind
 unfold XZ at he;split at he
 cases hb:(dN P t i d).isSlice with
 |false=>grind
 |true=>
  rw[hb]at he;simp only[cond_true]at he;obtain⟨e,rfl,hie'⟩:=slice hb;obtain⟨u,rfl,e3⟩:=h2 _ rfl;obtain rfl:=h1' rfl;obtain rfl:=bR hr;obtain rfl:=bR hm;obtain rfl:=bR e3;refine⟨True,_,.inl ⟨he.symm,trivial⟩,fun _=>⟨.slice none 0 0,?_,.v _⟩⟩;have hbd:(Instr.sliceBounds true 0 0 none (some (.int .i64 0)) (some (.int .i64 0))).run P w=.ok (0,0,0) w:=by
   rfl
  simp_all [Instr.sliceAt,Instr.slice,run_underlying,dQ]
 grind
theorem Zd {h:List Ob}(hp:Hp F own w h){nx:Nat}(hn:NxOk own h nx){t:TypeId}{ti te:TI}(ht:cw P t=some ti)(hte:cw P ti.elem=some te)(hsl:ti.isSlice=true){sl sc:SV}{vl vc:Value}(hrl:Rel F own w sl vl)(hrc:Rel F own w sc vc){r:OR}(he:mkS nx te sl sc=r)(hne:r≠ .bad):
  Dv F own w h ((Instr.makeSlice t vl vc).run P w) r:=by
 obtain⟨i,d,z,hi,hd,hz,hq,rfl⟩:=bJ ht;obtain⟨ie,de,ze,hie,hde,hze,hqe,hte'⟩:=bJ hte;cases d <;>simp[dN]at hsl;rename_i e;simp only[dN]at hie;unfold mkS at he;split at he
 rename_i n c;have el:=bR hrl;have ec:=bR hrc;subst el;subst ec;unfold mkT at he;split at he
 rename_i k htag;subst he;have htag':Ad P e ie=some k:=by rw[hte']at htag;exact htag
 obtain⟨t1,t2,t3,t4⟩:=Bz (F:=F) (own:=own) (w:=w) htag';have heb:te.bytes=ie.bytes:=by rw[hte'];rfl
 refine⟨_,_,_,_,rfl,fun⟨hc1,hc2,hc3⟩ =>?_⟩;subst hc1;rw[heb]at hc3;have hnb:n<=n*(ie.bytes:Int):=by
  have:n*1<=n*(ie.bytes:Int):=ajO (by omega) hc2;omega
 have hnm:n<=(aI:Int):=by grind [di,aI]
 refine⟨hnm,?_⟩;have hrun:=run_make (P:=P) w t e ie ze hd hie hze .i64 .i64 n n hc2 (ajc _) (by grind [di]) (by grind [aI]);have hrz:=(t4 ze hze).1;have hzs:ze.cells.size=ae k:=by rw[hrz.1,bv]
 refine⟨_,_,_,hrun,Rel.os (F:=F) (id:=nx) (hd:=⟨none,.slice (some ⟨w.heap.size,0,none⟩) n.toNat n.toNat,[],[w.heap.size]⟩) (Own.set_same _ _ _) rfl,wH hp hn (w1:=w) ⟨rfl,rfl,rfl,rfl⟩ _ _ _ rfl fun own' g=>.inr ⟨w.heap.size,0,n.toNat,_,e,by simp,rfl,nO _ _,?_,by simp,by simp;omega,fun q x hx j s hj=>?_⟩⟩;simp_all [size_madeCells];have hxd:x=gz k:=by
  grind
 subst hxd;have hjl:j<ae k:=by grind [bv]
 have hql:q<n.toNat:=by grind
 have hlt:q*ae k+j<n.toNat*ae k:=by
  have:(q+1)*ae k<=n.toNat*ae k:=aiD _ hql;grind
 refine⟨ze.cells.getD j undef,?_,(hrz.2 j s hj).mono g⟩;have hmod:(q*ae k+j) % ze.cells.size=j:=by rw[hzs,ak6,Nat.mul_add_mod,akw hjl]
 simp_all [madeCells];grind
 grind
theorem VR {h:List Ob}(hp:Hp F own w h){t ty:TypeId}{ti:TI}(ht:cw P t=some ti){l:List SV}{vs:Array Value}(hl:RelL F own w l vs){r:OR}(he:wb ti h l=r)(hne:r≠ .bad):
  ∃ (n:Nat),((∃ c,r=.asm c (.i n)/\c)\/r=.val (.i n))/\(Builtin.len_ #[t] ty vs).run P w=.ok (.int .i64 n) w:=by
 obtain⟨i,d,z,hi,hd,hz,hq,rfl⟩:=bJ ht;have hsl:(dN P t i d).isSlice=true->∀ (a0:Option Addr) (n cap:Nat),(Builtin.len_ #[t] ty #[.slice a0 n cap]).run P w=.ok (.int .i64 n) w:=by
  intro hs a0 n cap;cases d <;>simp[dN]at hs;simp[Builtin.len_,run_underlying hd,goInt]
 have one:∀ s,l=[s]->∃ v,vs= #[v]/\Rel F own w s v:=by
  rintro s rfl;obtain⟨⟨a⟩⟩:=vs;exact absurd hl.1 (by simp);rename_i x xs;cases xs with
  |nil=>exact⟨x,rfl,by simpa using hl.2 0 _ rfl⟩
  |cons _ _=>exact absurd hl.1 (by simp)
 unfold wb at he;split at he
 rename_i k m;obtain⟨v,rfl,hv⟩:=one _ rfl;cases hb:(dN P t i d).isSlice with
 |false=>grind
 |true=>
  rw[hb]at he;simp only[cond_true]at he;subst he;cases hv <;>grind
 obtain⟨v,rfl,hv⟩:=one _ rfl;cases hb:(dN P t i d).isSlice with
 |false=>grind
 |true=>
  rw[hb]at he;simp only[cond_true]at he;subst he;have:=bR hv;grind
 obtain⟨v,rfl,hv⟩:=one _ rfl;cases hb:(dN P t i d).isSlice with
 |false=>grind
 |true=>
  rw[hb]at he;simp only[cond_true]at he;subst he;cases hv <;>grind
 obtain⟨v,rfl,hv⟩:=one _ rfl;cases hb:(dN P t i d).isSlice with
 |false=>grind
 |true=>
  rw[hb]at he;simp only[cond_true]at he;subst he;cases hv with
  |rc hv=>
   refine⟨_,.inl ⟨_,rfl,?_⟩,hsl hb _ _ _⟩;generalize hvv:Value.slice _ _ _=vv at hv;cases hv <;>grind
 rename_i id;obtain⟨v,rfl,hv⟩:=one _ rfl;cases hb:(dN P t i d).isSlice with
 |false=>
  rw[hb]at he;simp only[cond_false]at he;obtain⟨hdd,h1,rfl,_⟩:=jo hv;cases ho:ar h id with
  |mp kk vk m pend=>
    rw[ho]at he;simp only[VC]at he;cases d with
    |map a b0=>
     cases hk:(dN P t i (.map a b0)).mkt.isSome&&noE pend with
     |false=>grind
     |true=>
      rw[hk]at he;simp only[cond_true]at he;subst he;rw[aim]at hk;obtain⟨hd',e0,b,es,clk,m1,m2,m3,m4,_⟩:=hp.at ho rfl;rw[h1]at e0;cases e0;rw[lZ hk.2]at m4;have hg:(getObj b).run P w=.ok (.map es clk) w:=by simp[getObj,Sem.run,m3]
      have hn:es.size=m.length:=m4.1;refine⟨m.length,.inr rfl,?_⟩;simp_all [Builtin.len_,run_underlying,goInt]
    |_=>exact absurd he.symm hne
  |_=>rw[ho]at he;exact absurd he.symm hne
 |true=>
  rw[hb]at he;simp only[cond_true]at he;obtain⟨hdd,h1,rfl,_⟩:=jo hv;cases ho:ar h id with
  |row k m=>
   rw[ho]at he;simp only[RN]at he;subst he;obtain⟨hd',e0,e1⟩:=hp.at ho rfl;rw[h1]at e0;cases e0;rcases e1 with⟨a0,m1,rfl,m3⟩ | ⟨b,o,cap,cs,ty,m1,m2,m3,m4,m5,m6,m7⟩ <;>grind
  |grid k m=>
   rw[ho]at he;simp only[RN]at he;subst he;obtain⟨hd',e0,e1⟩:=hp.at ho rfl;rw[h1]at e0;cases e0;rcases e1 with⟨m1,rfl,m3⟩ | ⟨b,o,cap,cs,ty,bs,m1,m2,m3,m4,m5,m6,m7,m8,m9⟩ <;>grind
  |_=>rw[ho]at he;exact absurd he.symm hne
 rename_i id q;obtain⟨v,rfl,hv⟩:=one _ rfl;cases hb:(dN P t i d).isSlice with
 |false=>grind
 |true=>
  rw[hb]at he;simp only[cond_true]at he;cases ho:ar h id with
  |grid k m=>
   rw[ho]at he;simp only[VB]at he;subst he;obtain⟨hd',e0,e1⟩:=hp.at ho rfl;cases hv with
   |gr g1 g2 g3=>
    rw[g1]at e0;cases e0;rcases e1 with⟨_,_,m1,_⟩ | ⟨b,o,cap,cs,ty,bs,m1,m2,m3,m4,m5,m6,m7,m8,m9⟩;grind
    obtain⟨b1,k1,k2,k3,k4⟩:=m9.get g2;rcases k3 with⟨a0,n1,n2,_⟩ | ⟨b2,o2,cap2,cs2,ty2,n1,n2,n3,n4,n5,n6,n7⟩ <;>grind
  |_=>rw[ho]at he;exact absurd he.symm hne
 rename_i m;obtain⟨v,rfl,hv⟩:=one _ rfl;cases hb:(dN P t i d).isSlice with
 |false=>grind
 |true=>
  rw[hb]at he;simp only[cond_true]at he;subst he;cases hv with
  |ls c q0 q1 q2=>grind [tJ]
 grind
end
section
variable {κ υ:Type}[DecidableEq κ]
def qy:List (κ×υ)->κ->Option Nat
 | [],_=>none|(a,_)::r,x=>if x=a then some 0 else(qy r x).map (· +1)
theorem wL {x:κ}:∀ {l:List (κ×υ)},qy l x=none->jn l x=none/\(∀ y,tT l x y=l++[(x,y)])/\Mi l x=l.length
 | [],_=>⟨rfl,fun _=>rfl,rfl⟩
 |(a,b)::r,h=>by
  simp only[qy]at h;split at h
  cases h;rename_i hne;have h':qy r x=none:=by simp_all
  obtain⟨h1,h2,h3⟩:=wL h';grind [jn,tT,Mi]
theorem ub {x:κ}:∀ {l:List (κ×υ)} {i:Nat},qy l x=some i->∃ y,l[i]? =some (x,y)/\jn l x=some y/\(∀ z,tT l x z=l.set i (x,z))/\Mi l x=i
 | [],i,h=>by simp[qy]at h
 |(a,b)::r,i,h=>by
  simp only[qy]at h;split at h
  rename_i he;simp at h;subst h;simp_all [jn,tT,Mi];rename_i hne;cases hm:qy r x with
  |none=>grind
  |some j=>
   rw[hm]at h;simp only[ajt,aip]at h;subst h;obtain⟨y,h1,h2,h3,h4⟩:=ub hm;grind [jn,tT,Mi]
end
section
variable {P:Program}{F:Nat->Prop}{own:Own}{w:World}
theorem Jb (a b:ByteArray):(a==b)=true↔a=b:=by
 obtain⟨x⟩:=a;obtain⟨y⟩:=b;show(x==y)=true↔_;simp
theorem xG (k:Tag)(x:k.T):wz (eO k) (cellsOf k x)=true:=by
 cases k <;>first|rfl|(cases x <;>rfl)
theorem E4:∀ {a b:List Nat},EE a b=true->a=b
 | [],[],_=>rfl
 |x::a,y::b,h=>by simp only[EE,aim]at h;rw[ain h.1,E4 h.2]
 | [],_::_,h=>by simp[EE]at h
 |_::_,[],h=>by simp[EE]at h
theorem KK:∀ {ks:List Kd} {l m:List SV},wz ks l=true->wz ks m=true->(∀ c∈ks.map j6,c≠0)->∃ b,eqL (ks.map j6) l m=some b/\(b=true↔l=m)
 | [],l,m,h1,h2,_=>by
  have e1:=wK h1;have e2:=wK h2;subst e1;subst e2;exact⟨true,rfl,by simp⟩
 |k::ks,l,m,h1,h2,hc=>by
  obtain⟨x,r,rfl,f1,f2⟩:=rP h1;obtain⟨y,s,rfl,g1,g2⟩:=rP h2;obtain⟨b,e1,e2⟩:=KK f2 g2 (fun c hcm=>hc c (by simp[hcm]));have hk:=hc (j6 k) (by simp);have:∃ b1,eqV (j6 k) x y=some b1/\(b1=true↔x=y):=by
   cases k with
   |s=>
    have hx:=Hz f1;have hy:=Hz g1;rw[<-hx,<-hy];refine⟨toS x==toS y,by rfl,by simp[Jb]⟩
   |b=>
    have hx:=HA f1;have hy:=HA g1;rw[<-hx,<-hy];refine⟨toB x==toB y,by rfl,by simp⟩
   |n k=>
    have hx:=HB f1;have hy:=HB g1;rw[<-hx,<-hy];refine⟨toI x==toI y,by simp[eqV,j6],by simp⟩
   |r k=>simp[j6]at hk|m a b=>simp[j6]at hk|f=>simp[j6]at hk
  obtain⟨b1,e3,e4⟩:=this;simp_all [eqL,AC]
theorem CD {t:TypeId}{k:Tag}(h:Kk P t=some k):∃ i d,P.info? t=some i/\Ad P t i=some k/\P.underlying t=some d/\lY P t=qz k/\
  ((lY P t=true/\(eO k).map j6=pQ P t d/\pQ P t d≠[])\/(lY P t=false/\(eO k).map j6=[b9 (some d)]/\b9 (some d)≠0)):=by
 unfold Kk at h;cases ht:Kj P t with
 |none=>grind
 |some k'=>
  rw[ht]at h;simp only at h;cases hf:Mh P t k' with
  |false=>grind
  |true=>
   rw[hf]at h;simp only[cond_true,aip]at h;subst h;obtain⟨i,hi,htag⟩:=CC ht;unfold Mh at hf;split at hf
   rename_i d hd;refine⟨i,d,hi,htag,hd,(Bz (F:=fun _=>False) (own:=cF) (w:=default) htag).2.2.1,?_⟩;cases ha:lY P t with
   |true=>
    rw[ha]at hf;simp only[cond_true,aim]at hf;have e:=E4 hf.1;refine .inl ⟨rfl,e,fun hn=>?_⟩;simp_all
   |false=>
    rw[ha]at hf;simp only[cond_false,aim]at hf;exact .inr ⟨rfl,E4 hf.1,by have:=nbl hf.2;omega⟩
   cases hf
theorem E5 {t:TypeId}{d:TypeDesc}(c:Nat)(h:c∈pQ P t d):c≠0:=by
 unfold pQ at h;split at h
 rename_i fs;cases hb:!P.stoodInHeld t&& !P.eqGuardType P.depth t&&eqFields P 0 fs.toList with
 |false=>grind
 |true=>
  rw[hb]at h;simp only[cond_true]at h;simp only[aim]at hb;have:∀ (l:List Field) (n:Nat),eqFields P n l=true->c∈l.map (fun f=>b9 (P.underlying f.type))->c≠0:=by
   intro l;induction l with
   |nil=>grind
   |cons f l ih=>
    intro n hf hm;simp only[eqFields,aim]at hf;simp only[aiW,aiu]at hm;rcases hm with rfl|hm;have:=nbl hf.1.2;omega;grind
  grind
 rename_i n e;cases hb:!P.eqGuardType P.depth t&&Nat.blt 0 (b9 (P.underlying e))&&Nat.beq (qk P e) 1 with
 |false=>grind
 |true=>
  rw[hb]at h;simp only[cond_true]at h;simp only[aim]at hb;have:=List.eq_of_mem_replicate h;have h2:=nbl hb.1.2;omega
 cases h
theorem E6 {d:Nat}{e:TypeId}(hc:b9 (P.underlying e)≠0):∀ (n m:Nat) (lx ly:List SV) (xs ys:Array Value) (b:Bool),eqL (List.replicate n (b9 (P.underlying e))) lx ly=some b->m+lx.length<=xs.size->m+ly.length<=ys.size->
  (∀ (j:Nat) (s:SV),lx[j]? =some s->Rel F own w s (xs.getD (m+j) undef))->(∀ (j:Nat) (s:SV),ly[j]? =some s->Rel F own w s (ys.getD (m+j) undef))->
  (Op.eqItems (d+1) e 1 xs ys (List.range' m n)).run P w=.ok b w
 |0,m,lx,ly,xs,ys,b,h,_,_,_,_=>by
  cases lx <;>cases ly <;>simp[eqL]at h;simp_all [Op.eqItems]
 |n+1,m,lx,ly,xs,ys,b,h,h1,h2,h3,h4=>by
  cases lx with
  |nil=>simp[eqL,ako]at h
  |cons x lx=>
   cases ly with
   |nil=>simp[eqL,ako]at h
   |cons y ly=>
    simp only[ako,eqL]at h;cases hv:eqV (b9 (P.underlying e)) x y with
    |none=>grind [AC]
    |some b1=>
     cases hl:eqL (List.replicate n (b9 (P.underlying e))) lx ly with
     |none=>grind [AC]
     |some b2=>
      rw[hv,hl]at h;simp only[AC,aip]at h;subst h;simp only[ais]at h1 h2;have e1:=vD (P:=P) (w:=w) hc (xs:=xs) (n:=m) (by omega);have e2:=vD (P:=P) (w:=w) hc (xs:=ys) (n:=m) (by omega);have e3:=MK (P:=P) (h3 0 x rfl) (h4 0 y rfl) hv d;simp only[ajP]at e3;rw[aj1];simp only[Op.eqItems,ale,aiJ,e1,e2,aiA,e3];cases b1 with
      |false=>simp
      |true=>
       have ih:=E6 (d:=d) hc n (m+1) lx ly xs ys b2 hl (by omega) (by omega) (fun j s hj=>by have:=h3 (j+1) s (by grind);grind) (fun j s hj=>by have:=h4 (j+1) s (by grind);grind);grind
theorem KL {t:TypeId}{d:TypeDesc}(hd:P.underlying t=some d){lx ly:List SV}{xs ys:Array Value}(hx:RelL F own w lx xs)(hy:RelL F own w ly ys){b:Bool}
  (hc:pQ P t d≠[]) (h:eqL (pQ P t d) lx ly=some b):(Op.equal t (.agg xs) (.agg ys)).run P w=.ok b w/\P.eqGuardType P.depth t=false:=by
 cases d with
 |struct fs=>exact KI hd hx hy hc h
 |array n e=>
  simp only[pQ]at hc h;cases hb:!P.eqGuardType P.depth t&&Nat.blt 0 (b9 (P.underlying e))&&Nat.beq (qk P e) 1 with
  |false=>grind
  |true=>
   rw[hb]at h;simp only[cond_true]at h;simp only[aim,aiE]at hb;obtain⟨⟨q1,q2⟩,q3⟩:=hb;refine⟨?_,q1⟩;have h1:=ain q3;have hi:∃ i,P.info? e=some i/\i.size=1:=by
    grind [qk]
   obtain⟨i,hi,his⟩:=hi;unfold Op.equal Op.maxDepth;rw[run_equalIn_array (w:=w) 9999 xs ys hd hi];have hco:P.cellsOf e=1:=by grind [Program.cellsOf]
   rw[hco,List.range_eq_range'];exact E6 (d:=9998) (by have:=nbl q2;omega) n 0 lx ly xs ys b h (by rw[hx.1];omega) (by rw[hy.1];omega) (fun j s hj=>by simpa using hx.2 j s hj) (fun j s hj=>by simpa using hy.2 j s hj)
 |_=>exact absurd rfl hc
theorem zG {k:Tag}{x:k.T}(h:qz k=true):svT k x=.agg (cellsOf k x):=by grind [svT]
theorem vE {l:List SV}{v:Value}(h:Rel F own w (.agg l) v):∃ vs,v=.agg vs/\RelL F own w l vs:=by
 cases h with|agg h0 h1=>exact⟨_,rfl,h0,h1⟩
theorem BA {k:Tag}{x:k.T}(h:qz k=false){s:SV}(hs:cellsOf k x=[s]):svT k x=s:=by unfold svT;rw[h,hs];rfl
theorem MO {d:TypeDesc}{k:Kd}{sx sy:SV}(hc:j6 k=b9 (some d))(h0:j6 k≠0)(fx:fit k sx=true)(fy:fit k sy=true){vx vy:Value}(hx:Rel F own w sx vx)(hy:Rel F own w sy vy):
  ∃ b,Instr.sameNow d vx vy=some b/\(b=true↔sx=sy)/\(b=true->vx=vy):=by
 cases k with
 |s=>
  have e1:=Hz fx;have e2:=Hz fy;rw[<-e1]at hx |-;rw[<-e2]at hy |-;have:=bR hx;have:=bR hy;subst vx;subst vy;cases d <;>simp[j6,b9]at hc;exact⟨toS sx==toS sy,rfl,by simp[Jb],by simp[Jb]⟩
 |b=>
  have e1:=HA fx;have e2:=HA fy;rw[<-e1]at hx |-;rw[<-e2]at hy |-;have:=bR hx;have:=bR hy;subst vx;subst vy;cases d <;>simp[j6,b9]at hc;exact⟨toB sx==toB sy,rfl,by simp,by simp⟩
 |n k=>
  have e1:=HB fx;have e2:=HB fy;rw[<-e1]at hx |-;rw[<-e2]at hy |-;have:=bR hx;have:=bR hy;subst vx;subst vy;cases d <;>simp[j6,b9]at hc;exact⟨toI sx==toI sy,by simp[Instr.sameNow],by simp,by simp⟩
 |r k=>simp[j6]at h0|m a b=>simp[j6]at h0|f=>simp[j6]at h0
theorem Ai {kk vk:Tag}{kt:TypeId}{vx:Value}{x:kk.T}:∀ (es:List MapEntry) (l:List (kk.T×vk.T)) (n:Nat),es.length=l.length->(∀ (i:Nat) (p:kk.T×vk.T),l[i]? =some p->∃ e:MapEntry,es[i]? =some e/\∃ b,(Op.equal kt vx e.key).run P w=.ok b w/\(b=true↔x=p.1))->
  (Instr.findAsking kt vx es n).run P w=.ok ((qy l x).bind fun i=>(es[i]?).map fun e=>(n+i,e.val)) w
 | [],[],n,_,_=>by rfl
 | [],_::_,_,h,_=>by simp at h
 |_::_,[],_,h,_=>by simp at h
 |e::es,(a,c)::l,n,hl,h=>by
  obtain⟨e',e1,b,e2,e3⟩:=h 0 _ rfl;simp at e1;subst e1;have ih:=Ai es l (n+1) (by grind) (fun i p hp=>by
   obtain⟨e',q1,q2⟩:=h (i+1) p (by grind);exact⟨e',by grind,q2⟩)
  simp only[Instr.findAsking,aiJ,e2,aiA];cases b with
  |true=>
   simp_all [qy]
  |false=>
   have hne:¬x=a:=fun hx=>by grind
   simp only[ait,if_false,qy,hne];rw[ih];cases qy l x <;>grind
theorem E7 {kk vk:Tag}{d:TypeDesc}{vx:Value}{x:kk.T}:∀ (es:List MapEntry) (l:List (kk.T×vk.T)) (n:Nat),es.length=l.length->(∀ (i:Nat) (p:kk.T×vk.T),l[i]? =some p->∃ e:MapEntry,es[i]? =some e/\∃ b,Instr.sameNow d vx e.key=some b/\(b=true↔x=p.1))->
  Instr.findNow d vx es n=some ((qy l x).bind fun i=>(es[i]?).map fun e=>(n+i,e.val))
 | [],[],n,_,_=>by rfl
 | [],_::_,_,h,_=>by simp at h
 |_::_,[],_,h,_=>by simp at h
 |e::es,(a,c)::l,n,hl,h=>by
  obtain⟨e',e1,b,e2,e3⟩:=h 0 _ rfl;simp at e1;subst e1;have ih:=E7 es l (n+1) (by grind) (fun i p hp=>by
   obtain⟨e',q1,q2⟩:=h (i+1) p (by grind);exact⟨e',by grind,q2⟩)
  simp only[Instr.findNow,e2];cases b with
  |true=>
   grind [qy]
  |false=>
   have hne:¬x=a:=fun hx=>by grind
   simp only[qy,hne,if_false];rw[ih];cases qy l x <;>grind
theorem CE {k:Tag}{c:Nat}(h:(eO k).map j6=[c])(x:k.T):∃ κ s,eO k=[κ]/\j6 κ=c/\cellsOf k x=[s]/\fit κ s=true:=by
 have hf:=xG k x;cases hk:eO k with
 |nil=>grind
 |cons κ r=>
  rw[hk]at h hf;simp only[aiW,aje,List.map_eq_nil_iff]at h;obtain⟨h1,rfl⟩:=h;obtain⟨s,r,hs,f1,f2⟩:=rP hf;have:=wK f2;grind
theorem xH {kk vk:Tag}{kt:TypeId}(hk:Kk P kt=some kk){vx:Value}{x:kk.T}(hx:Rel F own w (svT kk x) vx){l:List (kk.T×vk.T)}{es:Array MapEntry}(hl:es.size=l.length)(hes:∀ (i:Nat) (p:kk.T×vk.T),l[i]? =some p->∃ e,es[i]? =some e/\Rel F own w (svT kk p.1) e.key):
  (Instr.findKey kt vx es.toList).run P w=.ok ((qy l x).bind fun i=>(es[i]?).map fun e=>(i,e.val)) w:=by
 obtain⟨i,d,hi,htag,hd,ha,hcase⟩:=CD hk;unfold Instr.findKey;simp only[aiJ,run_underlying hd,aiA];rcases hcase with⟨h1,h2,h3⟩ | ⟨h1,h2,h3⟩;rw[h1]at ha;rw[zG ha.symm]at hx;obtain⟨xs,rfl,hxs⟩:=vE hx;have heq:∀ (i:Nat) (p:kk.T×vk.T),l[i]? =some p->∃ e:MapEntry,es.toList[i]? =some e/\∃ b,(Op.equal kt (.agg xs) e.key).run P w=.ok b w/\(b=true↔x=p.1):=fun i p hp=>by
  obtain⟨e,e1,e2⟩:=hes i p hp;rw[zG ha.symm]at e2;obtain⟨ys,hy1,hy2⟩:=vE e2;refine⟨e,by grind,?_⟩;obtain⟨b,q1,q2⟩:=KK (xG kk x) (xG kk p.1) (fun c hc=>by rw[h2]at hc;exact E5 c hc);rw[h2]at q1;rw[hy1];exact⟨b,(KL hd hxs hy2 h3 q1).1,by rw[q2];exact⟨fun h=>Dq h,fun h=>by rw[h]⟩⟩
 have hfa:=Ai (P:=P) (w:=w) es.toList l 0 (by omega) heq;simp only[ai2,ajS]at hfa;have hnow:Instr.findNow d (.agg xs) es.toList 0=none\/es.toList=[]:=by
  cases hel:es.toList with
  |nil=>grind
  |cons e r=>
   left;simp only[Instr.findNow];have:Instr.sameNow d (.agg xs) e.key=none:=by cases d <;>rfl
   rw[this]
 grind [Instr.findNow,Instr.findAsking]
 rw[h1]at ha;obtain⟨κ,s,k1,k2,k3,k4⟩:=CE h2 x;rw[BA ha.symm k3]at hx;have heq:∀ (i:Nat) (p:kk.T×vk.T),l[i]? =some p->∃ e:MapEntry,es.toList[i]? =some e/\∃ b,Instr.sameNow d vx e.key=some b/\(b=true↔x=p.1):=fun i p hp=>by
  obtain⟨e,e1,e2⟩:=hes i p hp;obtain⟨κ',s',m1,m2,m3,m4⟩:=CE h2 p.1;rw[k1]at m1;cases m1;rw[BA ha.symm m3]at e2;obtain⟨b,q1,q2,_⟩:=MO k2 (by omega) k4 m4 hx e2;exact⟨e,by grind,b,q1,by rw[q2];exact⟨fun h=>Dq (by grind),fun h=>by grind⟩⟩
 have hfn:=E7 (d:=d) es.toList l 0 (by omega) heq;simp_all
theorem yJ {em:Bool}{xs:Array Value}:∀ (fs:List Field) (n:Nat),eqFields P n fs=true->n+fs.length<=xs.size->
  (forIn fs PUnit.unit (fun f (_:PUnit) =>do
   if f.name≠ "_" then Instr.checkKey em 9999 f.type (<-part f.type xs f.offset)
   pure (ForInStep.yield PUnit.unit)):Sem PUnit).run P w=.ok PUnit.unit w
 | [],n,_,_=>by simp
 |f::fs,n,hf,hle=>by
  simp only[eqFields,aim]at hf;obtain⟨⟨⟨q1,q2⟩,q3⟩,q4⟩:=hf;have hn:f.name≠ "_":=by grind
  have ho:f.offset=n:=ain q2;have hc:b9 (P.underlying f.type)≠0:=by have:=nbl q3;omega
  simp only[ais]at hle;have e1:=vD (P:=P) (w:=w) hc (xs:=xs) (n:=n) (by omega);have e2:(Instr.checkKey em 9999 f.type (xs.getD n undef)).run P w=.ok () w:=by
   unfold Instr.checkKey;cases hu:P.underlying f.type with
   |none=>grind [b9]
   |some d=>
    rw[hu]at hc;simp only[aiJ,run_underlying hu,aiA];cases d <;>simp[b9]at hc <;>simp
  have ih:=yJ (em:=em) (xs:=xs) fs (n+1) q4 (by omega);simp_all
theorem Aj {em:Bool}{e:TypeId}(hc:b9 (P.underlying e)≠0)(hs:(sizeOf e).run P w=.ok 1 w){xs:Array Value}:∀ (n m:Nat),m+n<=xs.size->
  (forIn (List.range' m n) PUnit.unit (fun i (_:PUnit) =>do
   Instr.checkKey em 9999 e (<-part e xs (i*(<-sizeOf e)))
   pure (ForInStep.yield PUnit.unit)):Sem PUnit).run P w=.ok PUnit.unit w
 |0,m,_=>by simp
 |n+1,m,hle=>by
  have e1:=vD (P:=P) (w:=w) hc (xs:=xs) (n:=m) (by omega);have e2:(Instr.checkKey em 9999 e (xs.getD m undef)).run P w=.ok () w:=by
   unfold Instr.checkKey;cases hu:P.underlying e with
   |none=>grind [b9]
   |some d=>
    rw[hu]at hc;simp only[aiJ,run_underlying hu,aiA];cases d <;>simp[b9]at hc <;>simp
  have ih:=Aj (em:=em) hc hs (xs:=xs) n (m+1) (by omega);simp_all [aj1]
theorem vF {kk:Tag}{kt:TypeId}(hk:Kk P kt=some kk){vx:Value}{x:kk.T}(hx:Rel F own w (svT kk x) vx)(em:Bool):(Instr.checkKey em 10000 kt vx).run P w=.ok () w:=by
 obtain⟨i,d,hi,htag,hd,ha,hcase⟩:=CD hk;rcases hcase with⟨h1,h2,h3⟩ | ⟨h1,h2,h3⟩;rw[h1]at ha;rw[zG ha.symm]at hx;obtain⟨xs,rfl,hxs⟩:=vE hx;have hlen:(pQ P kt d).length=xs.size:=by
  rw[hxs.1,<-h2,ajn,bv];have:(eO kk).length=(cellsOf kk x).length:=by cases kk <;>rfl
  rw[this,bv]
 unfold Instr.checkKey;simp only[aiJ,run_underlying hd,aiA];cases d with
 |struct fs=>
  simp only[pQ]at h3 hlen;cases hb:!P.stoodInHeld kt&& !P.eqGuardType P.depth kt&&eqFields P 0 fs.toList with
  |false=>grind
  |true=>
   rw[hb]at hlen;simp only[aim]at hb;have:=yJ (P:=P) (w:=w) (em:=em) (xs:=xs) fs.toList 0 hb.2 (by grind);simp_all
 |array n e=>
  simp only[pQ]at h3 hlen;cases hb:!P.eqGuardType P.depth kt&&Nat.blt 0 (b9 (P.underlying e))&&Nat.beq (qk P e) 1 with
  |false=>grind
  |true=>
   rw[hb]at hlen;simp only[aim]at hb;have hs1:=ain hb.2;have hs:(sizeOf e).run P w=.ok 1 w:=by
    grind [qk,dQ]
   have:=Aj (P:=P) (w:=w) (em:=em) (xs:=xs) (e:=e) (by have:=nbl hb.1.2;omega) hs n 0 (by grind);simp_all
 |_=>exact absurd rfl h3
 unfold Instr.checkKey;simp only[aiJ,run_underlying hd,aiA];cases d <;>simp[b9]at h3 <;>simp
end
def BB (w:World)(b:Nat)(o:Obj):World:= { w with heap:=w.heap.setIfInBounds b o}
theorem MP {w:World}{b k:Nat}{o:Obj}(h:k≠b):(BB w b o).heap[k]? =w.heap[k]?:=by
 simp only[BB,ajR];grind
section
variable {P:Program}{F:Nat->Prop}{own:Own}{w:World}
theorem MQ {z:Value}(h:EC z=true):z=.agg z.cells:=by
 cases z <;>first|rfl|simp[EC]at h
theorem KM {t:TypeId}{i:TypeInfo}{k:Tag}(h:Ad P t i=some k){z:Value}(hz:i.zero=some z):Rel F own w (svT k (gz k)) z:=by
 obtain⟨t1,t2,t3,t4⟩:=Bz (F:=F) (own:=own) (w:=w) h;obtain⟨q1,q2⟩:=t4 z hz;cases ha:qz k with
 |true=>
  rw[zG ha,MQ (q2.trans ha)];exact .agg q1.1 q1.2
 |false=>
  have hc:z.cells= #[z]:=by cases z <;>first|rfl|grind [EC]
  rw[hc]at q1;have hl:(cellsOf k (gz k)).length=1:=by rw[<-q1.1];rfl
  obtain⟨s,hs⟩:∃ s,cellsOf k (gz k)=[s]:=by
   cases hcc:cellsOf k (gz k)with
   |nil=>grind|cons s r=>grind
  rw[BA ha hs];have:=q1.2 0 s (by rw[hs];rfl);simp_all
theorem Sh {s:SV}{l:List SV}(h:Cv s=some l):l=[s]:=by
 unfold Cv at h;split at h
 cases h;cases h
 ·rename_i h1 h2;cases s <;>first|(simp[rB]at h;exact h.symm) |(simp[rB]at h;done) |(exact(h1 _ rfl).elim) |skip
  rename_i x;cases x <;>first|(simp[rB]at h;exact h.symm) |(simp[rB]at h;done) |grind
theorem tW {k:Tag}{s:SV}{v:Value}(hr:Rel F own w s v){x:k.T}(h:unT k s=some x):Rel F own w (svT k x) v:=by
 unfold unT at h;cases ha:qz k with
 |true=>
  rw[ha]at h;simp only[cond_true]at h;rw[zG ha];cases hr with
  |agg h0 h1=>
   simp only[Bk,Dj]at h;have:=E1 h ⟨h0,h1⟩;exact .agg this.1 this.2
  |v y=>
   cases v with
   |agg cs=>
    simp only[Bk,Dj]at h;have:=E1 h (vs:=cs) (zD (F:=F) (own:=own) (w:=w) (.agg cs));exact .agg this.1 this.2
   |_=>simp[Bk,Dj]at h
  |_=>simp[Bk,Dj]at h
 |false=>
  rw[ha]at h;simp only[cond_false]at h;cases hl:Cv s with
  |none=>rw[hl]at h;cases h
  |some l=>
   rw[hl]at h;have:=Sh hl;subst this;simp only[Dj]at h;have hc:=oI h;have hlen:=MJ h;have hk:(eO k).length=1:=by
    have:(eO k).length=ae k:=by cases k <;>rfl
    grind
   cases hkk:eO k with
   |nil=>grind
   |cons κ r=>
    rw[hkk]at hc;simp only[zT]at hc;cases r with
    |nil=>
     rw[BA ha hc];exact qF hr
    |cons _ _=>grind
theorem pJ {a:Tag}{o:Option Tag}(h:my a o=true):o=some a:=by
 cases o with
 |none=>cases h|some b=>rw[wI (k:=a) (k':=b) h]
theorem AM {t:TypeId}{ti:TI}(ht:cw P t=some ti){kk vk:Tag}(hk:ti.mkt=some kk)(hv:ti.mvt=some vk):∃ kt e,P.underlying t=some (.map kt e)/\Kk P kt=some kk/\Kj P e=some vk:=by
 obtain⟨i,d,z,hi,hd,hz,hq,rfl⟩:=bJ ht;cases d <;>simp[dN]at hk hv;grind
theorem Qw {kk vk:Tag}(l:List (kk.T×vk.T))(p:Option (Nat×Option kk.T))(x:kk.T):(jn (fj kk vk l p) x).getD (gz vk)=(jn l x).getD (gz vk):=by
 match p with
 |none=>rfl|some (_,none) =>rfl
 |some (_,some y) =>
  simp only[fj];split
  rfl
  ·rename_i hn;have:∀ (l:List (kk.T×vk.T)),jn (l++[(y,gz vk)]) x=match jn l x with|some v=>some v|none=>if x=y then some (gz vk)else none:=by
    intro l;induction l with
    |nil=>simp[jn]
    |cons a l ih=>obtain⟨a,b⟩:=a;simp only[aiF,jn];grind
   rw[this];cases jn l x <;>grind
theorem BC {t:TypeId}{kt e:TypeId}{kk vk:Tag}(hd:P.underlying t=some (.map kt e))(hk:Kk P kt=some kk)(hv:Kj P e=some vk){m vx:Value}{x:kk.T}(hx:Rel F own w (svT kk x) vx){L:List (kk.T×vk.T)}{es:Array MapEntry}
  (hm:(m=.map none/\es= #[])\/∃ b clock,m=.map (some b)/\w.heap[b]? =some (.map es clock)) (hl:es.size=L.length) (hes:∀ (i:Nat) (p:kk.T×vk.T),L[i]? =some p->∃ e,es[i]? =some e/\Rel F own w (svT kk p.1) e.key/\Rel F own w (svT vk p.2) e.val) (ok:Bool):
  ∃ v,(Instr.lookup t m vx ok).run P w=.ok (if ok then .tuple #[v,.bool (jn L x).isSome]else v) w/\Rel F own w (svT vk ((jn L x).getD (gz vk))) v:=by
 obtain⟨i,hi,htag⟩:=CC hv;have hz:∃ z,i.zero=some z:=by
  have:=CB htag;simp only[ED,aim]at this;grind
 obtain⟨z,hz⟩:=hz;have hck:=vF hk hx es.isEmpty;have hfk:=xH hk hx hl (fun i p hp=>by obtain⟨e,e1,e2,_⟩:=hes i p hp;grind);have hzr:=KM (F:=F) (own:=own) (w:=w) htag hz;have hzv:(zeroValue e).run P w=.ok z w:=by simp[zeroValue,typeInfo,hi,hz]
 have hget:∃ v,((∃ j,((qy L x).bind fun i=>(es[i]?).map fun e=>(i,e.val))=some (j,v)/\(jn L x).isSome=true)\/(((qy L x).bind fun i=>(es[i]?).map fun e=>(i,e.val))=none/\v=z/\(jn L x).isSome=false))/\Rel F own w (svT vk ((jn L x).getD (gz vk))) v:=by
  cases hmi:qy L x with
  |none=>
   have:=(wL hmi).1;grind
  |some i=>
   obtain⟨y,h1,h2,_,_⟩:=ub hmi;obtain⟨e,e1,e2,e3⟩:=hes i _ h1;grind
 obtain⟨v,h1,h2⟩:=hget;refine⟨v,?_,h2⟩;rcases hm with⟨rfl,rfl⟩ | ⟨b,clock,rfl,hb⟩;simp_all [Instr.lookup,run_underlying];have hg:(getObj b).run P w=.ok (.map es clock) w:=by simp[getObj,Sem.run,hb]
 rcases h1 with⟨j,h1,h3⟩ | ⟨h1,rfl,h3⟩;simp_all [Instr.lookup,run_underlying];simp_all [Instr.lookup,run_underlying]
theorem E8 {kk vk:Tag}{l:List (kk.T×vk.T)}{ok:Bool}{o:Option kk.T}{r:OR}(he:EO kk vk l ok o=r)(hne:r≠ .bad):∃ x,o=some x/\r=.val (bif ok then .tup [svT vk (aZ kk vk l x),.b (NY kk vk l x)]else svT vk (aZ kk vk l x)):=by
 unfold EO at he;grind
theorem BD {vk:Tag}{y:vk.T}{b:Bool}{v:Value}(h:Rel F own w (svT vk y) v)(ok:Bool):Rel F own w (bif ok then .tup [svT vk y,.b b]else svT vk y) (if ok then .tuple #[v,.bool b]else v):=by
 cases ok with
 |false=>exact h
 |true=>
  refine .tup rfl fun j s hj=>?_;cases j with
  |zero=>simp_all
  |succ j=>
   cases j with
   |zero=>simp at hj;subst hj;exact .v _|succ j=>simp at hj
theorem Si {h:List Ob}(hp:Hp F own w h){t:TypeId}{ti:TI}(ht:cw P t=some ti){s sk:SV}{v vx:Value}(hr:Rel F own w s v)(hrk:Rel F own w sk vx){ok:Bool}{r:OR}(he:vt ti h ok sk s=r)(hne:r≠ .bad):
  ∃ s',r=.val s'/\∃ u,(Instr.lookup t v vx ok).run P w=.ok u w/\Rel F own w s' u:=by
 unfold vt at he;split at he
 rename_i id;obtain⟨hdd,h1,rfl,h2⟩:=jo hr;cases ho:ar h id with
 |mp kk vk l pend=>
  rw[ho]at he;simp only[Ks]at he;cases hc:my kk ti.mkt&&my vk ti.mvt&&(!ok||noE pend)with
  |false=>grind
  |true=>
   rw[hc]at he;simp only[cond_true]at he;simp only[aim]at hc;obtain⟨x,hx,rfl⟩:=E8 he hne;obtain⟨kt,e,q1,q2,q3⟩:=AM ht (pJ hc.1.1) (pJ hc.1.2);obtain⟨hd',e0,b,es,clk,m1,m2,m3,m4,_⟩:=hp.at ho rfl;rw[h1]at e0;cases e0;obtain⟨u,k1,k2⟩:=BC (P:=P) q1 q2 q3 (tW hrk hx) (m:=hdd.v) (.inr ⟨b,_,m1,m3⟩) m4.1 (fun i p hp=>by obtain⟨e,e1,e2,e3⟩:=m4.2 i p hp;grind) ok;rw[Qw]at k2;refine⟨_,rfl,_,k1,?_⟩;have hsome:ok=true->(jn (fj kk vk l pend) x).isSome=NY kk vk l x:=fun hok=>by
    have:=hc.2;rw[hok]at this;rw[lZ (by grind)];rfl
   have:=BD (b:=NY kk vk l x) k2 ok;cases ok with
   |false=>exact this|true=>rw[hsome rfl];exact this
 |_=>rw[ho]at he;exact absurd he.symm hne
 rename_i kk vk l;cases hc:my kk ti.mkt&&my vk ti.mvt with
 |false=>grind
 |true=>
  rw[hc]at he;simp only[cond_true]at he;simp only[aim]at hc;obtain⟨x,hx,rfl⟩:=E8 he hne;obtain⟨kt,e,q1,q2,q3⟩:=AM ht (pJ hc.1) (pJ hc.2);cases hr with
  |rm ck cv es clock h0 h1 h2 h3 h4 h5=>
   rename_i b;obtain⟨u,k1,k2⟩:=BC (P:=P) q1 q2 q3 (tW hrk hx) (m:=.map (some b)) (.inr ⟨b,_,rfl,h1⟩) h2 (fun i p hp=>by obtain⟨n,e1⟩:=h3 i p hp;grind) ok;exact⟨_,rfl,_,k1,BD k2 ok⟩
  |rm0=>
   obtain⟨u,k1,k2⟩:=BC (P:=P) q1 q2 q3 (tW hrk hx) (m:=.map none) (.inl ⟨rfl,rfl⟩) rfl (fun i p hp=>by simp at hp) ok (L:=[]);exact⟨_,rfl,_,k1,BD k2 ok⟩
 have:=bR hr;subst this;unfold N5 at he;split at he
 rename_i kk vk hk hv;obtain⟨x,hx,rfl⟩:=E8 he hne;obtain⟨kt,e,q1,q2,q3⟩:=AM ht hk hv;obtain⟨u,k1,k2⟩:=BC (P:=P) q1 q2 q3 (tW hrk hx) (m:=.map none) (.inl ⟨rfl,rfl⟩) rfl (fun i p hp=>by simp at hp) ok (L:=[]);exact⟨_,rfl,_,k1,BD k2 ok⟩;grind
 grind
theorem Ak {κ:Kd}{s:SV}{v u:Value}(hk:j6 κ≠0)(hf:fit κ s=true)(hv:Rel F own w s v)(hu:Rel F own w s u)(n:Nat):u=v/\Instr.sameBits n v u=true:=by
 cases κ with
 |s=>have e:=Hz hf;grind [bR,Instr.sameBits,Jb]|b=>have e:=HA hf;grind [bR,Instr.sameBits]|n k=>have e:=HB hf;grind [bR,Instr.sameBits]|r k=>simp[j6]at hk|m a b=>simp[j6]at hk|f=>simp[j6]at hk
theorem KN:∀ {ks:List Kd} {l:List SV} {j:Nat} {s:SV},wz ks l=true->l[j]? =some s->∃ κ,κ∈ks/\fit κ s=true
 | [],l,j,s,h,hj=>by have:=wK h;grind
 |k::ks,l,j,s,h,hj=>by
  obtain⟨x,r,rfl,f1,f2⟩:=rP h;cases j with
  |zero=>grind
  |succ j=>simp at hj;obtain⟨κ,h1,h2⟩:=KN f2 hj;grind
theorem Og {kt:TypeId}{kk:Tag}(hk:Kk P kt=some kk){x:kk.T}{v u:Value}(hv:Rel F own w (svT kk x) v)(hu:Rel F own w (svT kk x) u):(Instr.keyThatStays v u).run P w=.ok u w:=by
 obtain⟨i,d,hi,htag,hd,ha,hcase⟩:=CD hk;have:Instr.sameBits 10000 v u=true:=by
  rcases hcase with⟨h1,h2,h3⟩ | ⟨h1,h2,h3⟩;rw[h1]at ha;rw[zG ha.symm]at hv hu;obtain⟨xs,rfl,hxs⟩:=vE hv;obtain⟨ys,rfl,hys⟩:=vE hu;have hsz:xs.size=ys.size:=hxs.1.trans hys.1.symm;have key:∀ (j:Nat),j<xs.size->ys.getD j undef=xs.getD j undef/\Instr.sameBits 9999 (xs.getD j undef) (ys.getD j undef)=true:=fun j hj=>by
   have hjc:j< (cellsOf kk x).length:=by rw[<-hxs.1];exact hj
   obtain⟨κ,q1,q2⟩:=KN (xG kk x) (aiv hjc);have hc:j6 κ≠0:=by
    have:j6 κ∈(eO kk).map j6:=aki.2 ⟨κ,q1,rfl⟩;rw[h2]at this;exact E5 _ this
   exact Ak hc q2 (hxs.2 j _ (aiv hjc)) (hys.2 j _ (aiv hjc)) 9999
  simp only[Instr.sameBits,aim,beq_iff_eq,hsz,true_and,aiL];rintro⟨a,b⟩ hm;obtain⟨j,hj⟩:=aiU hm;rw[List.getElem?_zip_eq_some]at hj;obtain⟨j1,j2⟩:=hj;have hjl:j<xs.size:=by grind
  have:=(key j hjl).2;simp_all;rw[h1]at ha;obtain⟨κ,s,k1,k2,k3,k4⟩:=CE h2 x;rw[BA ha.symm k3]at hv hu;exact(Ak (by omega) k4 hv hu 10000).2
 simp[Instr.keyThatStays,this]
theorem MpAt.upd {own':Own}{w':World}(g:Goes F own w own' w'){kk vk:Tag}{l:List (kk.T×vk.T)}{es:Array MapEntry}(h:MpAt F own w kk vk l es){i:Nat}{x:kk.T}{y:vk.T}{vx vy:Value}(hx:Rel F own w (svT kk x) vx)(hy:Rel F own w (svT vk y) vy)(hi:i<l.length):
  MpAt F own' w' kk vk (l.set i (x,y)) (es.modify i fun e=>{ e with key:=vx,val:=vy}):=by
 refine⟨by simp[h.1],fun j p hp=>?_⟩;rw[ajW]at hp;by_cases hij:i=j
 subst hij;rw[if_pos rfl,if_pos hi]at hp;simp only[aip]at hp;subst hp;obtain⟨e,e1,e2,_⟩:=h.2 i _ (aiv hi);exact⟨{ e with key:=vx,val:=vy},by grind,e2,hx.mono g,hy.mono g⟩;rw[if_neg hij]at hp;obtain⟨e,e1,e2,e3,e4⟩:=h.2 j p hp;exact⟨e,by grind,e2,e3.mono g,e4.mono g⟩
theorem MpAt.push {own':Own}{w':World}(g:Goes F own w own' w'){kk vk:Tag}{l:List (kk.T×vk.T)}{es:Array MapEntry}(h:MpAt F own w kk vk l es){x:kk.T}{y:vk.T}{vx vy:Value}(hx:Rel F own w (svT kk x) vx)(hy:Rel F own w (svT vk y) vy)(c:Nat):
  MpAt F own' w' kk vk (l++[(x,y)]) (es.push ⟨vx,vy,c⟩):=by
 refine⟨by simp[h.1],fun j p hp=>?_⟩;rw[ajf]at hp;split at hp
 rename_i hlt;obtain⟨e,e1,e2,e3,e4⟩:=h.2 j p hp;exact⟨e,by grind,e2,e3.mono g,e4.mono g⟩;rename_i hlt;have hj:j=l.length:=by
  grind
 subst hj;simp at hp;subst hp;exact⟨⟨vx,vy,c⟩,by rw[<-h.1];simp,trivial,hx.mono g,hy.mono g⟩
theorem MpAt.erase {own':Own}{w':World}(g:Goes F own w own' w'){kk vk:Tag}{l:List (kk.T×vk.T)}{es:Array MapEntry}(h:MpAt F own w kk vk l es)(i:Nat):
  MpAt F own' w' kk vk (l.eraseIdx i) (es.eraseIdxIfInBounds i):=by
 have hz:es.toList.length=l.length:=by simpa using h.1
 refine⟨?_,fun j p hp=>?_⟩;grind [List.length_eraseIdx]
 rw[<-ajS,Array.toList_eraseIdxIfInBounds,akF];rw[akF]at hp;split at hp
 rename_i hlt;obtain⟨e,e1,e2,e3,e4⟩:=h.2 _ p hp;exact⟨e,by grind,e2,e3.mono g,e4.mono g⟩;rename_i hlt;obtain⟨e,e1,e2,e3,e4⟩:=h.2 _ p hp;exact⟨e,by grind,e2,e3.mono g,e4.mono g⟩
theorem Jc (es:Array MapEntry)(i:Nat)(f:MapEntry->MapEntry)(hf:∀ e,(f e).born=e.born):j8 (es.modify i f)=j8 es:=by
 unfold j8;refine List.ext_getElem? fun j=>?_;grind
theorem Stamped.modify {es:Array MapEntry}{c i:Nat}{f:MapEntry->MapEntry}(h:Stamped es c)(hf:∀ e,(f e).born=e.born):Stamped (es.modify i f) c:=by
 grind [Stamped,Jc]
theorem Stamped.push {es:Array MapEntry}{c:Nat}(h:Stamped es c)(vx vy:Value):Stamped (es.push ⟨vx,vy,c⟩) (c+1):=by
 grind [j8,Stamped]
theorem Stamped.erase {es:Array MapEntry}{c:Nat}(h:Stamped es c)(i:Nat):Stamped (es.eraseIdxIfInBounds i) c:=by
 have e:(j8 (es.eraseIdxIfInBounds i)).Sublist (j8 es):=by
  grind [j8,Array.toList_eraseIdxIfInBounds]
 exact⟨h.1.sublist e,fun n hn=>h.2 n (e.subset hn)⟩
theorem HE {κ υ:Type}[DecidableEq κ]{x:κ}:∀ {l:List (κ×υ)},qy l x=none->DM l x=l
 | [],_=>rfl
 |(a,b)::r,h=>by
  simp only[qy]at h;split at h
  cases h;rename_i hne;simp only[DM,if_neg hne];rw[HE (by cases hm:qy r x with
   |none=>rfl
   |some i=>rw[hm]at h;cases h)]
theorem HF {κ υ:Type}[DecidableEq κ]{x:κ}:∀ {l:List (κ×υ)} {i:Nat},qy l x=some i->DM l x=l.eraseIdx i
 | [],i,h=>by rfl
 |(a,b)::r,i,h=>by
  simp only[qy]at h;split at h
  rename_i he;cases h;simp[DM,he];rename_i hne;cases hm:qy r x with
  |none=>rw[hm]at h;cases h
  |some j=>
   rw[hm]at h;simp at h;subst h;simp[DM,hne,HF hm]
theorem wM {h:List Ob}(hp:Hp F own w h){id:Nat}{hd:Hd}(h1:own id=some hd){b:Nat}(hb:hd.bs=[b])(hv:hd.v=.map (some b)){es:Array MapEntry}{c:Nat}(hh:w.heap[b]? =some (.map es c))(es':Array MapEntry)(c':Nat){kk vk:Tag}{l':List (kk.T×vk.T)}{p':Option (Nat×Option kk.T)}
  (hm:∀ own' w',Goes F own w own' w'->MpAt F own' w' kk vk (fj kk vk l' p') es') (hs:Stamped es' c') (hpd:PendOk own kk vk l' es' c' p'):Step F own w (bM h id (.mp kk vk l' p')) own (BB w b (.map es' c')):=by
 refine rO hp h1 (b:=b) (by simp[hb]) (by simp[BB]) (fun k hk=>MP hk) rfl rfl rfl _ fun g=>⟨b,es',c',hv,hb,?_,hm _ _ g,hs,hpd⟩;grind [BB]
theorem Oh {h:List Ob}(hp:Hp F own w h){t:TypeId}{ti:TI}(ht:cw P t=some ti){s sk sv:SV}{v vx vy:Value}(hr:Rel F own w s v)(hrk:Rel F own w sk vx)(hrv:Rel F own w sv vy){r:OR}(he:DO ti h sk sv s=r)(hne:r≠ .bad):
  ∃ ups,r=.eff True True ups .any/\∃ w',(Instr.mapUpdate t v vx vy).run P w=.ok () w'/\Step F own w (ba h ups) own w':=by
 unfold DO at he;split at he
 rename_i id;obtain⟨hdd,h1,rfl,h2⟩:=jo hr;cases ho:ar h id with
 |mp kk vk l pend=>
  rw[ho]at he;simp only[Y4]at he;cases hc:my kk ti.mkt&&my vk ti.mvt&&noE pend with
  |false=>grind
  |true=>
   rw[hc]at he;simp only[cond_true]at he;simp only[aim]at hc;unfold Y3 at he;split at he
   rename_i x y hx hy;subst he;obtain⟨kt,e,q1,q2,q3⟩:=AM ht (pJ hc.1.1) (pJ hc.1.2);obtain⟨hd',e0,b,es,clk,m1,m2,m3,m4,m5,_⟩:=hp.at ho rfl;rw[h1]at e0;cases e0;rw[lZ hc.2]at m4;have rx:=tW hrk hx;have ry:=tW hrv hy;have hg:(getObj b).run P w=.ok (.map es clk) w:=by simp[getObj,Sem.run,m3]
   have hset:∀ o,(setObj b o).run P w=.ok () (BB w b o):=fun o=>by simp[setObj,Sem.run,m3,BB]
   have hck:=vF q2 rx false;have hfk:=xH q2 rx m4.1 (fun i p hp=>by obtain⟨e,e1,e2,e3,_⟩:=m4.2 i p hp;grind);refine⟨_,rfl,?_⟩;simp only[ba];cases hmi:qy l x with
   |none=>
    obtain⟨_,n2,_⟩:=wL hmi;have:=wM hp h1 m2 m1 m3 (es.push ⟨vx,vy,clk⟩) (clk+1) (l':=fN kk vk l x y) (p':=none) (fun own' w' g=>by
     simp only[fj,fN,n2];exact MpAt.push g m4 rx ry clk) (m5.push vx vy) trivial
    simp_all [Instr.mapUpdate,run_underlying]
   |some i=>
    obtain⟨y',n1,n2,n3,_⟩:=ub hmi;obtain⟨e',k1,k2,k3,k4⟩:=m4.2 i _ n1;have:=wM hp h1 m2 m1 m3 (es.modify i fun e=>{ e with key:=vx,val:=vy}) clk (l':=fN kk vk l x y) (p':=none) (fun own' w' g=>by
     simp only[fj,fN,n3];exact MpAt.upd g m4 rx ry (aiq.1 n1).1) (m5.modify fun _=>rfl) trivial
    refine⟨_,?_,this⟩;rw[hmi]at hfk;have hst:=Og q2 k3 rx;simp_all [Instr.mapUpdate,run_underlying]
   grind
 |_=>rw[ho]at he;exact absurd he.symm hne
 grind
theorem VS {h:List Ob}(hp:Hp F own w h){t:TypeId}{ti:TI}(ht:cw P t=some ti){l:List SV}{vs:Array Value}(hl:RelL F own w l vs){r:OR}(he:AE ti h l=r)(hne:r≠ .bad){tys:Array TypeId}(hty:tys[0]? =some t)(ty:TypeId):
  ∃ ups,r=.eff True True ups .any/\∃ u w',(Builtin.delete_ tys ty vs).run P w=.ok u w'/\Step F own w (ba h ups) own w':=by
 unfold AE at he;split at he
 ·rename_i id sk;obtain⟨vs⟩:=vs;have hsz:=hl.1;match vs,hsz with
  | [v0,vx],_=>
  have hr:Rel F own w (.os id) v0:=hl.2 0 _ rfl;have hrk:Rel F own w sk vx:=hl.2 1 _ rfl;obtain⟨hdd,h1,rfl,h2⟩:=jo hr;cases ho:ar h id with
  |mp kk vk l pend=>
   rw[ho]at he;simp only[Y7]at he;cases hc:my kk ti.mkt&&my vk ti.mvt&&noE pend with
   |false=>grind
   |true=>
    rw[hc]at he;simp only[cond_true]at he;simp only[aim]at hc;unfold Y6 at he;split at he
    rename_i x hx;subst he;obtain⟨kt,e,q1,q2,q3⟩:=AM ht (pJ hc.1.1) (pJ hc.1.2);obtain⟨hd',e0,b,es,clk,m1,m2,m3,m4,m5,_⟩:=hp.at ho rfl;rw[h1]at e0;cases e0;rw[lZ hc.2]at m4;have rx:=tW hrk hx;have hg:(getObj b).run P w=.ok (.map es clk) w:=by simp[getObj,Sem.run,m3]
    have hset:∀ o,(setObj b o).run P w=.ok () (BB w b o):=fun o=>by simp[setObj,Sem.run,m3,BB]
    have hck:=vF q2 rx es.isEmpty;have hfk:=xH q2 rx m4.1 (fun i p hp=>by obtain⟨e,e1,e2,e3,_⟩:=m4.2 i p hp;grind);refine⟨_,rfl,?_⟩;simp only[ba];cases hmi:qy l x with
    |none=>
     have:=wM hp h1 m2 m1 m3 es clk (l':=Bj kk vk l x) (p':=none) (fun own' w' g=>by
      simp only[fj,Bj,HE hmi];exact m4.carry g.carries) m5 trivial
     refine⟨.tuple #[],_,?_,this⟩;rw[hmi]at hfk;simp only[m1,Builtin.delete_,hty,ajT,akx,akf,aiJ,run_underlying q1,aiA,hg,hck,hfk,Option.bind_none,hset,ajx]
    |some i=>
     obtain⟨y',n1,n2,n3,_⟩:=ub hmi;obtain⟨e',k1,k2,k3,k4⟩:=m4.2 i _ n1;have:=wM hp h1 m2 m1 m3 (es.eraseIdxIfInBounds i) clk (l':=Bj kk vk l x) (p':=none) (fun own' w' g=>by
      simp only[fj,Bj,HF hmi];exact MpAt.erase g m4 i) (m5.erase i) trivial
     refine⟨.tuple #[],_,?_,this⟩;rw[hmi]at hfk;simp only[m1,Builtin.delete_,hty,ajT,akx,akf,aiJ,run_underlying q1,aiA,hg,hck,hfk,ajL,k1,ajt,hset,ajx]
    grind
  |_=>rw[ho]at he;exact absurd he.symm hne
 grind
theorem MR {es:Array MapEntry}{i:Nat}{e':MapEntry}(k1:es[i]? =some e')(vx:Value):(es.modify i fun e=>{ e with key:=vx})=es.modify i fun e=>{ e with key:=vx,val:=e'.val}:=by
 grind
theorem VT {h:List Ob}(hp:Hp F own w h){nx:Nat}(hn:NxOk own h nx){t:TypeId}{ti:TI}(ht:cw P t=some ti){s sk:SV}{v vx:Value}(hr:Rel F own w s v)(hrk:Rel F own w sk vx){r:OR}(he:zU ti nx h sk s=r)(hne:r≠ .bad):
  Dv F own w h ((Instr.mapEntry t v vx).run P w) r:=by
 unfold zU at he;split at he
 ·rename_i id;obtain⟨hdd,h1,rfl,h2⟩:=jo hr;cases ho:ar h id with
  |mp kk vk l pend=>
   rw[ho]at he;simp only[P9]at he;cases hc:my kk ti.mkt&&my vk ti.mvt&&noE pend with
   |false=>grind
   |true=>
    rw[hc]at he;simp only[cond_true]at he;simp only[aim]at hc;unfold P8 at he;split at he
    rename_i x hx;subst he;obtain⟨kt,e,q1,q2,q3⟩:=AM ht (pJ hc.1.1) (pJ hc.1.2);obtain⟨hd',e0,b,es,clk,m1,m2,m3,m4,m5,_⟩:=hp.at ho rfl;rw[h1]at e0;cases e0;rw[lZ hc.2]at m4;have rx:=tW hrk hx;obtain⟨i,hi,htag⟩:=CC q3;have hz:∃ z,i.zero=some z:=by
     have:=CB htag;simp only[ED,aim]at this;grind
    obtain⟨z,hz⟩:=hz;have hzr:=KM (F:=F) (own:=own) (w:=w) htag hz;have hzv:(zeroValue e).run P w=.ok z w:=by simp[zeroValue,typeInfo,hi,hz]
    have hg:(getObj b).run P w=.ok (.map es clk) w:=by simp[getObj,Sem.run,m3]
    have hset:∀ o,(setObj b o).run P w=.ok () (BB w b o):=fun o=>by simp[setObj,Sem.run,m3,BB]
    have hck:=vF q2 rx false;have hfk:=xH q2 rx m4.1 (fun i p hp=>by obtain⟨e,e1,e2,e3,_⟩:=m4.2 i p hp;grind);have hidn:id≠nx:=fun e=>by rw[e,hn.none]at h1;cases h1
    have st1:∀ n:Nat,Step F own w (bM h nx (.fwd none)) (own.move [] nx ⟨none,.int .i64 n,[],[]⟩) w:=fun n=>
     mJ (nx:=nx) hp hn [] (by simp) ⟨none,.int .i64 n,[],[]⟩ (.fwd none) (fun b hb=>by simp at hb) (fun _ _ _=>rfl) (aio _) rfl rfl rfl fun own' g i hi=>by cases hi
    have go:∀ n:Nat,(own.move [] nx ⟨none,.int .i64 n,[],[]⟩) id=some hdd:=fun n=>by grind [Own.move]
    have gx:∀ n:Nat,(own.move [] nx ⟨none,.int .i64 n,[],[]⟩) nx=some ⟨none,.int .i64 n,[],[]⟩:=fun n=>by simp[Own.move]
    have fin:∀ (n:Nat) (es':Array MapEntry) (c':Nat),(∀ own' w',Goes F own w own' w'->MpAt F own' w' kk vk (fj kk vk l (some (nx,some x))) es')->Stamped es' c'->(∃ e,es'[wC kk vk l x]? =some e/\e.born=n)->
      Step F own w (ba h [(nx,.fwd none),(id,.mp kk vk l (some (nx,some x)))]) (own.move [] nx ⟨none,.int .i64 n,[],[]⟩) (BB w b (.map es' c')):=fun n es' c' hm hs hpd=>by
     obtain⟨e1,p1,p2⟩:=hpd;have s1:=st1 n;have s2:=wM s1.hp (go n) m2 m1 m3 es' c' (l':=l) (p':=some (nx,some x)) (fun own' w' g=>hm _ _ ⟨fun id hd h=>by obtain⟨hd',a,b⟩:=s1.fr.goes.ids (F:=F) id hd h;obtain⟨hd2,a2,b2⟩:=g.ids _ _ a;exact⟨hd2,a2,b.trans b2⟩,fun b hb hn=>by
      obtain⟨a1,a2⟩:=s1.fr.goes.keep b hb hn;obtain⟨a3,a4⟩:=g.keep b hb a1;grind,g.size⟩) hs ⟨_,e1,gx n,p1,by rw[p2]⟩
     refine⟨s2.hp,s1.fr.trans s2.fr,fun j hj hd=>?_⟩;have hd2:dg (ar (bM (bM h nx (.fwd none)) id (.mp kk vk l (some (nx,some x)))) j)=true:=hd;rw[dv,dv]at hd2;by_cases e:j=nx
     subst e;rw[if_neg hidn,if_pos rfl]at hd2;cases hd2;grind [Own.move]
    cases hmi:qy l x with
    |none=>
     obtain⟨n1,n2,n3⟩:=wL hmi;have hpos:wC kk vk l x=es.size:=by rw[m4.1];simp[wC,n3]
     have:=fin clk (es.push ⟨vx,z,clk⟩) (clk+1) (fun own' w' g=>by
      simp only[fj,n1,Option.isSome_none,ait,if_false];exact MpAt.push g m4 rx hzr clk) (m5.push vx z) ⟨⟨vx,z,clk⟩,by grind,rfl⟩
     refine⟨_,_,_,_,rfl,fun _=>⟨trivial,.tuple #[z,.int .i64 clk],_,_,?_,.tup rfl fun j s hj=>?_,this⟩⟩;simp_all [Instr.mapEntry,run_underlying,goInt];match j,hj with
     |0,hj=>cases hj;have:=hzr.mono this.fr.goes;simp_all [aZ]|1,hj=>cases hj;exact .os (gx clk) rfl
    |some i=>
     obtain⟨y',n1,n2,n3,n4⟩:=ub hmi;obtain⟨e',k1,k2,k3,k4⟩:=m4.2 i _ n1;have hes':=MR k1 vx;have hpos:wC kk vk l x=i:=n4;have:=fin e'.born (es.modify i fun e=>{ e with key:=vx}) clk (fun own' w' g=>by
      simp only[fj,n2,Option.isSome_some,if_true];rw[hes'];have:=MpAt.upd g m4 rx k4 (aiq.1 n1).1
      rwa[show l.set i (x,y')=l by
       apply List.ext_getElem?;intro j;rw[ajW];grind]at this) (m5.modify fun _=>rfl) ⟨{ e' with key:=vx},by grind,rfl⟩
     refine⟨_,_,_,_,rfl,fun _=>⟨trivial,.tuple #[e'.val,.int .i64 e'.born],_,_,?_,.tup rfl fun j s hj=>?_,this⟩⟩;rw[hmi]at hfk;have hst:=Og q2 k3 rx;simp_all [Instr.mapEntry,run_underlying,goInt];match j,hj with
     |0,hj=>cases hj;have:=k4.mono this.fr.goes;simp_all [aZ]|1,hj=>cases hj;exact .os (gx _) rfl
    grind
  |_=>rw[ho]at he;exact absurd he.symm hne
 grind
theorem Sj {es:Array MapEntry}{i:Nat}{e:MapEntry}(hb:(j8 es).Nodup)(hi:es[i]? =some e):es.findIdx? (fun x=>(x.born:Int) ==(e.born:Int))=some i:=by
 obtain⟨hn,he⟩:=ajj.1 hi;rw[Array.findIdx?_eq_some_iff_getElem];refine⟨hn,by simp[he],fun j hj=>?_⟩;simp only[beq_iff_eq];intro hc;have hjl:j< (j8 es).length:=by simp[j8];omega
 have hil:i< (j8 es).length:=by simp[j8];omega
 have hlt:=aiH.1 hb j i hjl hil hj;grind [j8]
theorem VU {h:List Ob}(hp:Hp F own w h){t:TypeId}{ti:TI}(ht:cw P t=some ti){s ss sv:SV}{v vs vy:Value}(hr:Rel F own w s v)(hrs:Rel F own w ss vs)(hrv:Rel F own w sv vy){r:OR}(he:IZ ti h sv s ss=r)(hne:r≠ .bad):
  ∃ c ups,r=.eff c True ups .any/\(c->∃ w',(Instr.entryStore t v vs vy).run P w=.ok () w'/\Step F own w (ba h ups) own w'):=by
 unfold IZ at he;split at he
 ·rename_i id n;obtain⟨hdd,h1,rfl,h2⟩:=jo hr;obtain⟨hds,s1,rfl,_⟩:=jo hrs;cases ho:ar h id with
  |mp kk vk l pend=>
   rw[ho]at he;cases pend with
   |none=>exact absurd he.symm hne
   |some q=>
   obtain⟨n',q⟩:=q;cases q with
   |none=>exact absurd he.symm hne
   |some x=>
   simp only[VH]at he;cases hc:my kk ti.mkt&&my vk ti.mvt&&Nat.beq n' n with
   |false=>grind
   |true=>
    rw[hc]at he;simp only[cond_true]at he;simp only[aim]at hc;have hnn:=ain hc.2;subst hnn;unfold Y5 at he;split at he
    rename_i y hy;subst he;obtain⟨hd',e0,b,es,clk,m1,m2,m3,m4,m5,hd2,e',t1,k1,t3⟩:=hp.at ho rfl;rw[h1]at e0;cases e0;rw[s1]at t1;cases t1;have ry:=tW hrv hy;refine⟨_,_,rfl,fun _=>?_⟩;simp only[ba];have hg:(getObj b).run P w=.ok (.map es clk) w:=by simp[getObj,Sem.run,m3]
    have hset:∀ o,(setObj b o).run P w=.ok () (BB w b o):=fun o=>by simp[setObj,Sem.run,m3,BB]
    have hpos:∃ y0,(fj kk vk l (some (n',some x)))[wC kk vk l x]? =some (x,y0)/\fN kk vk l x y=(fj kk vk l (some (n',some x))).set (wC kk vk l x) (x,y):=by
     cases hmi:qy l x with
     |none=>
      obtain⟨n1,n2,n3⟩:=wL hmi;simp_all [fj,wC,fN]
     |some i=>
      obtain⟨y',n1,n2,n3,n4⟩:=ub hmi;grind [fj,wC,fN]
    obtain⟨y0,p1,p2⟩:=hpos;obtain⟨e'',k1',k2,k3,k4⟩:=m4.2 _ _ p1;rw[k1]at k1';cases k1';have hlt:wC kk vk l x<es.size:=(ajj.1 k1).1;have hes':(es.modify (wC kk vk l x) fun e=>{ e with val:=vy})=es.modify (wC kk vk l x) fun e=>{ e with key:=e'.key,val:=vy}:=by
     apply alc;simp;intro j h1 h2;simp only[Array.getElem_modify];grind
    have:=wM hp h1 m2 m1 m3 (es.modify (wC kk vk l x) fun e=>{ e with val:=vy}) clk (l':=fN kk vk l x y) (p':=none) (fun own' w' g=>by
     simp only[fj];rw[hes',p2];exact MpAt.upd g m4 k3 ry (by grind)) (m5.modify fun _=>rfl) trivial
    refine⟨_,?_,this⟩;have hfi:=Sj m5.1 k1;simp_all [Instr.entryStore,asInt,vB];grind
  |_=>rw[ho]at he;exact absurd he.symm hne
 grind
end
section
variable {P:Program}{F:Nat->Prop}{own:Own}{w:World}
theorem GridIn.swap {k:Tag}{m:List k.T}{v:Value}{bn:List Nat}(h1:sK v=true)(hm:RowRel F own w k m v bn):∀ {l:List (List k.T)} {vs:List Value} {bs:List Nat} {i:Nat},GridIn F own w k l vs bs->i<l.length->bs.Nodup->bn.Nodup->(∀ b∈bs,b ∉ bn)->
  ∃ bs',GridIn F own w k (l.set i m) (vs.set i v) bs'/\(∀ b∈bs',b∈bs\/b∈bn)/\bs'.Nodup
 |l::ls,u::vs,bs,0,⟨b1,b2,e,h0,h2,h3⟩,_,hn,hbn,hd=>by
  subst e;have hn':=ajs.1 hn;refine⟨bn++b2,⟨bn,b2,rfl,h1,hm,h3⟩,fun b hb=>?_,ajs.2 ⟨hbn,hn'.2.1,fun a ha b hb e=>hd b (ajd _ hb) (e▸ha)⟩⟩;grind
 |l::ls,u::vs,bs,i+1,⟨b1,b2,e,h0,h2,h3⟩,hi,hn,hbn,hd=>by
  subst e;have hn':=ajs.1 hn;obtain⟨bs',q1,q2,q3⟩:=GridIn.swap h1 hm h3 (by simpa using hi) hn'.2.1 hbn fun b hb=>hd b (ajd _ hb);refine⟨b1++bs',⟨b1,bs',rfl,h0,h2,q1⟩,fun b hb=>?_,ajs.2 ⟨hn'.1,q3,fun a ha b hb e=>?_⟩⟩ <;>grind
 | [],_,_,_,_,hi,_,_,_=>absurd hi (aju _)|_::_,[],_,_,h,_,_,_,_=>h.elim
theorem Step.fwd {h1:List Ob}{own1:Own}{w1:World}(s:Step F own w h1 own1 w1){id nx:Nat}{hd0 hd':Hd}(hid:own1 id=some hd0)(hb:hd0.bs=[])(hnx:own1 nx=some hd')(hv:hd'.v=hd0.v)(h0:sK hd0.v=true)(hl:id<h1.length)(ho:own id≠none):
  Step F own w (bM h1 id (.fwd (some nx))) own1 w1:=by
 have hat:∀ j,ar (bM h1 id (.fwd (some nx))) j=if id=j then .fwd (some nx)else ar h1 j:=fun j=>dv ..;have hlen:(bM h1 id (.fwd (some nx))).length=h1.length:=by rw[ce,if_pos hl]
 refine⟨s.hp.upd (Goes.refl _ _ _) (fun j=>j=id) (by omega) (fun j hj=>⟨rfl,by grind,fun _ _ _ _=>rfl⟩) (fun j hd hj e=>?_) (fun j hj _=>?_),s.fr,fun j hj hd=>?_⟩;grind
 subst hj;refine⟨hd0,hid,?_⟩;rw[hat,if_pos rfl];intro i e;grind;have hne:id≠j:=fun e=>ho (e▸hj);rw[hat,if_neg hne]at hd;exact s.fresh j hj hd
theorem Qy {h:List Ob}(hp:Hp F own w h){nx:Nat}(hn:NxOk own h nx){t:TypeId}{ti:TI}(ht:cw P t=some ti){id rid:Nat}{i:Int}{k:Tag}{l:List (List k.T)}{m:List k.T}{v vx:Value}(hr:Rel F own w (.rp 1 id i 0) v)(hrx:Rel F own w (.os rid) vx)(hne:id≠rid)(hsz:ti.size=1)
  (ho:ar h id=.grid k l) (ho2:ar h rid=.row k m):∃ own' w',(Instr.storeAt t v vx).run P w=.ok () w'/\Step F own w (ba h [(id,.dead),(rid,.dead),(nx,.grid k (l.set i.toNat m)),(id,.fwd (some nx))]) own' w':=by
 cases hr with
 |rp h1 h2 h3=>
 rename_i n cap b o hd;obtain⟨hd2,g1,rfl,g2⟩:=jo hrx;obtain⟨hd',e0,e⟩:=hp.at ho rfl;rw[h1]at e0;cases e0;obtain⟨hd2',e0,hm⟩:=hp.at ho2 rfl;rw[g1]at e0;cases e0;rcases e with⟨q,_⟩ | ⟨b',o',cap',cs,ty,bs,e1,e2,e3,e4,e5,e6,e7,e8,e9⟩;grind
 have e1':=e1;rw[h2]at e1;simp only[aja,aip,ajA]at e1;obtain⟨⟨rfl,rfl,_⟩,rfl,rfl⟩:=e1;obtain⟨cs',w',q1,q2,q3,q4,q5⟩:=zF (P:=P) ht hrx (xs:=[.os rid]) rfl (by rw[hsz];rfl) (fun j s hj v hv=>by
  cases j with
  |zero=>simp at hj;subst hj;obtain⟨hd3,_,rfl,k2⟩:=jo hv;exact oH k2
  |succ j=>simp at hj) (off:=o+i.toNat) e4 (by simp;omega)
 have hnd:bs.Nodup/\b ∉ bs:=by grind
 have hbb:b∈hd.bs:=by grind
 have hdis:∀ c∈hd.bs,c ∉ hd2.bs:=fun c hc hc2=>hne (hp.inj id rid hd hd2 c h1 g1 hc hc2);have hnd2:hd2.bs.Nodup:=by rcases hm.blocks with e| ⟨c,e⟩ <;>rw[e] <;>simp
 obtain⟨bs',r1,r2,r3⟩:=e9.swap (i:=i.toNat) g2 hm h3 hnd.1 hnd2 (fun c hc=>hdis c (by grind));have hb':b ∉ bs':=fun hm=>by
  grind
 have hK:∀ id'∈[id,rid],∃ hd,own id'=some hd:=by grind
 have hKl:id<h.length:=hp.dom _ _ h1;have hnk:nx ∉ [id,rid]:=fun hm=>by obtain⟨hd,e⟩:=hK nx hm;rw[hn.none]at e;cases e
 have hu:cs'[o+i.toNat]? =some hd2.v:=by
  obtain⟨u,k1,k2⟩:=q4 (o+i.toNat) (aio _) (by simp);obtain⟨hd3,k3,k4,_⟩:=jo (k2 (.os rid) (by simp));grind
 have st:=mJ (w':=w') hp hn [id,rid] hK ⟨none,hd.v,hd.vs.set i.toNat hd2.v,b::bs'⟩ (.grid k (l.set i.toNat m)) (fun c hc=>by
   grind)
  (fun c _ hno=>q2.other c fun e=>hno ⟨id,by simp,hd,h1,e▸hbb⟩) (by rw[q2.size];omega) q2.os q2.tape q2.output
  (fun own' g=>.inr ⟨b,o,cap,cs',ty,bs',by grind,rfl,ai1.2 ⟨hb',r3⟩,q2.here,by omega,by grind,by grind,fun j u hj=>by
    rw[ajW]at hj;grind,r1.carry g.carries fun c hc=>q2.other c fun e=>hb' (e▸hc)⟩)
 have hmv:=lQ nx (.grid k (l.set i.toNat m)) [id,rid] h 0 hnk (fun j hj=>by obtain⟨hd,e⟩:=hK j hj;exact hp.dom _ _ e);have hidn:id≠nx:=fun e=>hnk (e▸by simp);have:=st.fwd (id:=id) (nx:=nx) (hd0:= { hd with bs:=[]}) (hd':=⟨none,hd.v,hd.vs.set i.toNat hd2.v,b::bs'⟩) (by grind [Own.move]) rfl (by simp[Own.move]) rfl (by show sK hd.v=true;rw[h2];rfl) (aiy hKl hmv.2.1) (by rw[h1];simp);exact⟨_,w',by grind,this⟩
theorem E9 {k:Tag}(a:Option Addr):∀ n:Nat,GridIn F own w k (List.replicate n []) (List.replicate n (.slice a 0 0)) []
 |0=>rfl|n+1=>⟨[],[],rfl,rfl,.inl ⟨a,rfl,rfl,rfl⟩,E9 a n⟩
theorem VV {h:List Ob}(hp:Hp F own w h){nx:Nat}(hn:NxOk own h nx){t:TypeId}{ti te tr:TI}(ht:cw P t=some ti)(hte:cw P ti.elem=some te)(hsl:ti.isSlice=true){sl sc:SV}{vl vc:Value}(hrl:Rel F own w sl vl)(hrc:Rel F own w sc vc){r:OR}(he:GR nx te tr sl sc=r)(hne:r≠ .bad):
  Dv F own w h ((Instr.makeSlice t vl vc).run P w) r:=by
 obtain⟨i,d,z,hi,hd,hz,hq,rfl⟩:=bJ ht;obtain⟨ie,de,ze,hie,hde,hze,hqe,hte'⟩:=bJ hte;cases d <;>simp[dN]at hsl;rename_i e;simp only[dN]at hie;unfold GR at he;split at he
 ·rename_i n c;have el:=bR hrl;have ec:=bR hrc;subst el;subst ec;unfold VF at he;split at he
  ·rename_i k htag;cases hcz:Nat.beq te.size 1&&VE te.zero&&Nat.ble 1 te.bytes with
   |false=>grind
   |true=>
   rw[hcz]at he;simp only[cond_true]at he;subst he;simp only[aim]at hcz;have hes:te.size=ie.size:=by rw[hte'];rfl
   have heb:te.bytes=ie.bytes:=by rw[hte'];rfl
   have hez:te.zero=svs ze:=by simp_all [dN]
   have t1:ie.size=1:=by simp_all
   have hzc:ze.cells= #[.slice none 0 0]:=by
    have:=hcz.1.2;rw[hez]at this;unfold VE at this;split at this
    rename_i q;unfold svs at q;have q2:ze.cells.toList=[.slice none 0 0]:=by
     simp_all
    grind
    cases this
   refine⟨_,_,_,_,rfl,fun⟨hc1,hc2,hc3⟩ =>?_⟩;subst hc1;rw[heb]at hc3;have hby:1<=ie.bytes:=by simp_all
   have hnb:n<=n*(ie.bytes:Int):=by
    have:n*1<=n*(ie.bytes:Int):=ajO (by omega) hc2;omega
   have hnm:n<=(aI:Int):=by grind [di,aI]
   refine⟨hnm,?_⟩;have hrun:=run_make (P:=P) w t e ie ze hd hie hze .i64 .i64 n n hc2 (ajc _) (by grind [di]) (by grind [aI]);refine⟨_,_,_,hrun,Rel.os (F:=F) (id:=nx) (hd:=⟨none,.slice (some ⟨w.heap.size,0,none⟩) n.toNat n.toNat,List.replicate n.toNat (.slice none 0 0),[w.heap.size]⟩) (Own.set_same _ _ _) rfl,wH hp hn (w1:=w) ⟨rfl,rfl,rfl,rfl⟩ _ _ _ rfl fun own' g=>.inr ⟨w.heap.size,0,n.toNat,_,e,[],by simp,rfl,by simp,nO _ _,?_,by simp,by simp;omega,fun q x hx=>?_,E9 none _⟩⟩;grind [size_madeCells]
   have hql:q<n.toNat:=by grind
   simp_all [madeCells,alf]
  grind
 grind
theorem Qz {h:List Ob}(hp:Hp F own w h){nx:Nat}(hn:NxOk own h nx){t:TypeId}{ti:TI}(ht:cw P t=some ti){s sx:SV}{v vx:Value}(hr:Rel F own w s v)(hrx:Rel F own w sx vx){r:OR}
  (he:tg ti.size nx h s sx=r) (hne:r≠ .bad):∃ ups own' w',r=.eff True True ups .any/\(Instr.storeAt t v vx).run P w=.ok () w'/\Step F own w (ba h ups) own' w':=by
 have old:tf ti.size h s (rB sx)=r->∃ ups own' w',r=.eff True True ups .any/\(Instr.storeAt t v vx).run P w=.ok () w'/\Step F own w (ba h ups) own' w':=fun he=>by
  obtain⟨ups,e,w',e1,e2⟩:=Qt (P:=P) hp ht hr hrx he hne;grind
 unfold tg at he;split at he
 rename_i sz id i off rid;cases hg:IU (ar h id)with
 |false=>grind
 |true=>
  rw[hg]at he;simp only[cond_true]at he;cases hc:Nat.beq ti.size 1&&Nat.beq sz 1&&Nat.beq off 0&& !(Nat.beq id rid)with
  |false=>grind
  |true=>
   rw[hc]at he;simp only[cond_true]at he;simp only[aim,aiE]at hc;have c1:=ain hc.1.1.1;have c2:=ain hc.1.1.2;have c3:=ain hc.1.2;have c4:id≠rid:=fun e=>by simp_all
   subst c2;subst c3;cases ho:ar h id with
   |grid k l=>
    rw[ho]at he;simp only[EJ]at he;cases ho2:ar h rid with
    |row k' m'=>
     rw[ho2]at he;simp only[Mq]at he;split at he
     rename_i ek;subst ek;obtain⟨own',w',e1,e2⟩:=Qy (P:=P) hp hn ht hr hrx c4 c1 ho ho2;exact⟨_,own',w',he.symm,e1,e2⟩;exact absurd he.symm hne
    |_=>rw[ho2]at he;exact absurd he.symm hne
   |_=>rw[ho]at hg;cases hg
 grind
theorem E_ {k:Tag}{l:List k.T}{lo hi:Int}(h:hi.toNat<=l.length):(EM k l lo hi).length=l.length:=by
 grind [EM]
theorem GX {z:Array Value}{n i:Nat}(h:i<n*z.size):(Builtin.zeroCells z n)[i]? =some (z[i % z.size]!):=by
 simp[Builtin.zeroCells,h]
theorem VW {h:List Ob}(hp:Hp F own w h){t:TypeId}{ti te:TI}(ht:cw P t=some ti)(hte:cw P ti.elem=some te){l:List SV}{vs:Array Value}(hl:RelL F own w l vs){r:OR}(he:AD ti te h l=r)(hne:r≠ .bad)(ty:TypeId):
  Dv F own w h ((Builtin.clear_ #[t] ty vs).run P w) r:=by
 obtain⟨i,d,z,hi,hd,hz,hq,rfl⟩:=bJ ht;obtain⟨ie,de,ze,hie,hde,hze,hqe,hte'⟩:=bJ hte;unfold AD at he;split at he
 ·rename_i s id lo hi';obtain⟨vs⟩:=vs;have hsz:=hl.1;match vs,hsz with
  | [v0],_=>
  have hr:Rel F own w (.vw s id lo hi') v0:=hl.2 0 _ rfl;cases hsl:(dN P t i d).isSlice with
  |false=>grind
  |true=>
  rw[hsl]at he;simp only[cond_true]at he;cases d <;>simp[dN]at hsl;rename_i e;simp only[dN]at hie;cases hr with
  | @vw _ _ cap _ _ hd' a h1 h2 hcap3=>
  cases ho:ar h id with
  |row k m=>
   rw[ho]at he;simp only[Y2]at he;cases hc:Nat.beq s (ae k)&&N3 k te.tag with
   |false=>grind
   |true=>
    rw[hc]at he;simp only[cond_true]at he;subst he;rw[aim]at hc;have hs:=ain hc.1;have htag0:te.tag=some k:=by
     cases hq:te.tag with
     |none=>grind [N3]|some b=>rw[hq]at hc;rw[wI (k:=k) (k':=b) hc.2]
    have htag:Ad P e ie=some k:=by rw[hte']at htag0;exact htag0
    obtain⟨t1,t2,t3,t4⟩:=Bz (F:=F) (own:=own) (w:=w) htag;have hrz:=(t4 ze hze).1;have hzs:ze.cells.size=ae k:=by rw[hrz.1,bv]
    have hzv:(zeroValue e).run P w=.ok ze w:=by simp[zeroValue,typeInfo,hie,hze]
    obtain⟨hdd,e0,hrow⟩:=hp.at ho rfl;rw[h1]at e0;cases e0;have hrow:RowRel F own w k m hd'.v hd'.bs:=hrow;refine⟨_,_,_,_,rfl,fun _=>⟨trivial,.tuple #[],own,?_⟩⟩;simp only[ba];by_cases hlt:hi'.toNat<=lo.toNat
    have hn0:hi'.toNat - lo.toNat=0:=by omega
    refine⟨w,?_,.any _,?_⟩;rw[hn0];cases a <;>simp[Builtin.clear_,run_underlying hd];rw[EM,if_pos hlt];exact Hu hp h1 _ hrow;obtain⟨b,o,n,cap',e1,e2,e3⟩:=h2.resolve_left hlt;subst e3;rcases hrow with⟨a',q1,rfl,q2⟩ | ⟨b',o',cap2,cs,ty2,q1,q2,q3,q4,q5,q6,q7⟩;grind
    rw[e1]at q1;simp only[aja,aip,ajA]at q1;obtain⟨⟨rfl,rfl,_⟩,rfl,rfl⟩:=q1;subst hs;have hN:(hi'.toNat - lo.toNat)≠0:=by omega
    obtain⟨N,hN'⟩:∃ N,hi'.toNat - lo.toNat=N+1:=⟨hi'.toNat - lo.toNat - 1,by omega⟩;have hmul:lo.toNat*ae k+(hi'.toNat - lo.toNat)*ae k<=cap'*ae k:=by
     rw[<-ald];exact aiD _ (by omega)
    have hzc:(Builtin.zeroCells ze.cells (hi'.toNat - lo.toNat)).toList.length=(hi'.toNat - lo.toNat)*ae k:=by rw[Array.length_toList,tj,hzs]
    have hone:∀ v∈(Builtin.zeroCells ze.cells (hi'.toNat - lo.toNat)).toList,v.oneCell'=true:=fun v hv=>by
     have hm:v∈ze.cells:=by
      simp only[Builtin.zeroCells]at hv;simp at hv;obtain⟨w9,hv1,hv2⟩:=hv;have hpos:0<ze.cells.size:=by
       grind
      have:=akc w9 hpos;grind
     obtain⟨j,hj,rfl⟩:=akO hm;have hjl:j< (cellsOf k (gz k)).length:=by rw[<-hrz.1];exact hj
     have:=hrz.2 j _ (aiv hjl);have h9:=I6 (aiv hjl) this;rw[aiB,ajE hj]at h9;exact oH h9
    obtain⟨cs',w',p1,p2,p3,p4⟩:=ld (P:=P) (b:=b) (o:=o+lo.toNat*ae k) (ty:=ty2) (Builtin.zeroCells ze.cells (hi'.toNat - lo.toNat)).toList 0 w cs q3 (by omega) hone;refine⟨w',?_,.any _,rO hp h1 (b:=b) (by rw[q2];simp) p2.size p2.other p2.os p2.tape p2.output _ fun g=>.inr ⟨b,o,cap',cs',ty2,?_,q2,p2.here,by omega,?_,?_,?_⟩⟩;simp_all [Builtin.clear_,run_underlying];grind [E_]
    grind [E_]
    grind [E_]
    intro q x hx j s hj;rw[EM,if_neg hlt]at hx;have hjl:j<ae k:=by grind [bv]
    rw[p4,hzc];have hql:q<m.length:=by
     grind
    by_cases hin:lo.toNat<=q/\q<hi'.toNat
    have hx':x=gz k:=by
     grind [List.getElem?_append_left]
    subst hx';have hlow:lo.toNat*ae k<=q*ae k:=aiD _ hin.1;have hup:q*ae k+ae k<=hi'.toNat*ae k:=by rw[<-akD];exact aiD _ hin.2
    have hsub:(hi'.toNat - lo.toNat)*ae k=hi'.toNat*ae k - lo.toNat*ae k:=alg _ _ _;rw[if_pos (by omega)];refine⟨ze.cells.getD j undef,?_,(hrz.2 j s hj).mono g⟩;have hidx:o+q*ae k+j - (o+lo.toNat*ae k+0)=(q - lo.toNat)*ae k+j:=by rw[alg];omega
    rw[hidx,ajS];have hlt2:(q - lo.toNat)*ae k+j< (hi'.toNat - lo.toNat)*ae k:=by omega
    have hmod:((q - lo.toNat)*ae k+j) % ae k=j:=by rw[ak6,Nat.mul_add_mod,akw hjl]
    have:=GX (z:=ze.cells) (n:=hi'.toNat - lo.toNat) (i:=(q - lo.toNat)*ae k+j) (by grind);simp_all;rw[if_neg (by
     rintro⟨a1,a2⟩;apply hin;rw[alg]at a2;refine⟨?_,?_⟩;apply aiO;intro hc;have:(q+1)*ae k<=lo.toNat*ae k:=aiD _ (by omega);grind
     apply aiO;intro hc;have h5:hi'.toNat*ae k<=q*ae k:=aiD _ (by omega);omega)]
    have hx2:m[q]? =some x:=by
     by_cases h0:q<lo.toNat
     grind
     rw[List.getElem?_append_right (by simp;omega),akb]at hx;grind
    obtain⟨u,u1,u2⟩:=q7 q x hx2 j s hj;exact⟨u,u1,u2.mono g⟩
  |_=>rw[ho]at he;exact absurd he.symm hne
 grind
end
end Go.Sx
end
section
namespace Go.Sx
variable {P:Program}
theorem Jd {w:World}{ty:TypeId}{b bm since c0 clock:Nat}{seen:Array Nat}{es:Array MapEntry}(hb:w.heap[b]? =some (.mapIter (some bm) since seen c0))(hm:w.heap[bm]? =some (.map es clock))(hold:∀ x∈es.toList,x.born<since)(hsc:since<=c0):
  ((leftOf es seen).size=0/\(Instr.next (.pointer (some ⟨b,0,none⟩)) false ty).run P w=.ok (.tuple #[.bool false]) w)\/
  ∃ e∈(leftOf es seen).toList,∃ w1:World,(w1=w\/w1=w.drew)/\(Instr.next (.pointer (some ⟨b,0,none⟩)) false ty).run P w=.ok (.tuple #[.bool true,e.key,e.val]) { w1 with heap:=w1.heap.setIfInBounds b (.mapIter (some bm) since (seen.push e.born) clock)}:=by
 simp only[Instr.next,getObj,aiJ,Sem.run,hb,hm,Result.andThen,next_test_false seen es since c0 hold hsc,ait,if_false];unfold leftOf;have hmem:∀ x∈(Array.filter (fun e=>!seen.contains e.born) es).toList,x.born<since:=fun x hx=>hold x (by grind);generalize Array.filter (fun e=>!seen.contains e.born) es=L at hmem |-;have e1:L.filter (fun x=>decide (x.born<since))=L:=Array.filter_eq_self.2 (fun x hx=>by grind);have e2:L.filter (fun x=>decide (x.born>=since))= #[]:=by
  simp_all
 simp only[e1,e2,Array.append_empty];by_cases h0:L.size=0
 simp_all [Question.forced];right;have hne:L.isEmpty=false:=by grind
 simp only[hne,ait,if_false,Array.empty_append,Array.size_map];have hch:∃ (j:Nat) (w1:World),j<L.size/\(w1=w\/w1=w.drew)/\(choose (Question.mapNext L.size)).run P w=.ok j w1:=by
  by_cases hf:L.size<=1
  exact⟨0,w,by omega,.inl rfl,by simp[choose,Sem.run,Question.forced,hf]⟩;exact⟨_,w.drew,akc _ (by omega),.inr rfl,by
   simp only[choose,Sem.run,Question.forced,decide_eq_true_eq,hf,if_false,Question.cut];rfl⟩
 obtain⟨j,w1,hj,hal,hrun⟩:=hch;have hb1:w1.heap[b]? =some (.mapIter (some bm) since seen c0):=by
  rcases hal with rfl|rfl;exact hb;exact hb
 refine⟨L[j],by simp,w1,hal,?_⟩;simp_all [setObj,Sem.run]
theorem GY {w:World}{b bm since clock:Nat}{seen:Array Nat}{es:Array MapEntry}{e:MapEntry}(hb:w.heap[b]? =some (.mapIter (some bm) since (seen.push e.born) clock))(hm:w.heap[bm]? =some (.map es clock))(he:e∈es.toList)(hn:(es.toList.map (·.born)).Nodup):
  (Instr.entry (.pointer (some ⟨b,0,none⟩))).run P w=.ok (.tuple #[e.key,e.val]) w:=by
 have hf:es.find? (·.born==e.born)=some e:=by rw[<-Array.find?_toList];exact find_born e es.toList hn he
 simp only[Instr.entry,getObj,aiJ,Sem.run,hb,hm,Result.andThen,Array.back?_push,bne_self_eq_false,ait,if_false,hf];rfl
end Go.Sx
end
