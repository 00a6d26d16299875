/- Part of the proof that the law RefuseEither returns true and leaves its arguments as they were, for all arguments of bulk at most 1048576 (the Upto form). -/
import Derived.Test.YtaikmgjfkejlkaaGreatE102
import Derived.Laws.IdiomRangeMap
set_option linter.all false
set_option maxHeartbeats 4000000
set_option maxRecDepth 100000
section
namespace Go.Sx
open Go.RowKit
section
variable {P:Program}{F:Nat->Prop}{own:Own}{w:World}
variable {v:Value}
theorem iz{id:Nat}(h:Rel F own w (.os id) v):∃ hd,own id=some hd/\v=hd.v/\pt hd.v=true:=by
 cases h with|os h1 h2=>grind
variable {k:Tag}
theorem aoO.blocks{l:List k.T}{bs:List Nat}(h:aoO F own w k l v bs):bs=[]\/∃ b,bs=[b]:=by
 rcases h with⟨_,_,_,e⟩ | ⟨b,_,_,_,_,_,e,_⟩ <;>grind
variable {m:List k.T}
theorem aoS.app{u:Value}{E:List Nat}(O:pt u=true)(V:aoO F own w k m u E):∀ {l:List (List k.T)} {vs:List Value} {bs:List Nat},aoS F own w k l vs bs->aoS F own w k (l++[m]) (vs++[u]) (bs++E)
 | [],[],bs,h=>by grind [aoS]
 |l::ls,v::vs,bs,⟨c1,Y,h1,W,h2,X⟩ =>⟨c1,Y++E,by grind,W,h2,aoS.app O V X⟩
 | [],_::_,_,h=>h.elim|_::_,[],_,h=>h.elim
variable {h:List Ob}{t t2 ty e e2:TypeId}{z:Value}
theorem EG(hp:Hp F own w h){nx:Nat}(hn:apB own h nx){i:TypeInfo}(ht:P.underlying t=some (.slice e))(ht2:P.underlying t2=some (.slice e2))(hi:P.info? e=some i)(hz:i.zero=some z)(hsz:i.size=1)(hzs:z.cells.size=1)(hby:1<=i.bytes)
   {l:List (List k.T)}  {hd E:Hd} {id2:Nat} (O:own id2=some E) (ho2:ap h id2=.row k m) (hone:pt E.v=true) {K:List Nat}
  (hob:ao5 F own w hd (.aoV k l)) (hd0:(hd.bs=[]/\K=[id2])\/∃ id,id≠id2/\own id=some hd/\K=[id,id2]) {u:Value} (hu:Rel F own w (.ls 1 [.os id2]) u) (hfit:(l++[m]).length*i.bytes<=d8):
  (l++[m]).length<=aN/\∃ v' hd' w',(Builtin.append_ #[t,t2] ty #[hd.v,u]).run P w=.ok v' w'/\hd'.v=v'/\pt v'=true/\Step F own w (bf h (K.map (λid=>(id,Ob.dead))++[(nx,.aoV k (l++[m]))])) (own.move K nx hd') w':=by
 have hlen:(l++[m]).length<=aN:=by
  have:(l++[m]).length<=(l++[m]).length*i.bytes:=amc _ hby;grind [d8,aN]
 refine⟨hlen,?_⟩;have h63:(l++[m]).length<=9223372036854775807:=by grind [aN]
 simp only[ak9,ak5,alo,ak8]at hlen h63 hfit;obtain⟨hd2',e0,hm⟩:=hp.at ho2 rfl;rw[O]at e0;cases e0;have hK2:id2∈K:=by grind
 have hK:∀ id∈K,∃ hd,own id=some hd:=by
  grind
 have hKb:∀ b∈hd.bs,∃ id∈K,∃ hd,own id=some hd/\b∈hd.bs:=by
  grind
 have X:∀ b∈hd.bs,b ∉ E.bs:=by
  rcases hd0 with⟨h1,rfl⟩ | ⟨id,hne,h1,rfl⟩;grind
  intro b hb hb2;exact hne (hp.inj id id2 hd E b h1 O hb hb2)
 have hlt:∀ b∈hd.bs,b<w.heap.size:=λb hb=>by obtain⟨id,_,hd',h1,h2⟩:=hKb b hb;exact hp.lt id hd' b h1 h2
 have hnd2:E.bs.Nodup:=by
  rcases hm.blocks with e| ⟨b,e⟩ <;>rw[e] <;>simp
 have hsrc:∃ a c,u=.slice a 1 c/\∀ w1:World,w1.heap=w.heap->(Builtin.firstCells i.size 1 u).run P w1=.ok #[E.v] w1:=by
  cases hu with
  |ls c hz h0 h1 h2=>
   rename_i m b o cap;have hm1:m=1:=by simpa using hz
   subst hm1;obtain⟨q1,q2⟩:=h1 0 _ rfl;obtain⟨hd3,q3,q4,q5⟩:=iz (h2 0 _ rfl);rw[O]at q3;cases q3;refine⟨_,_,rfl,λw1 hw1=>?_⟩;have:=run_firstCells_some (P:=P) w1 i.size 1 ⟨b,o,none⟩ 1 cap [E.v] (by simp[hsz]) (λj v hj=>by
    grind [nG,ut])
   omega
 obtain⟨au,cu,hue,hnews⟩:=hsrc;have fin:∀ (ee:Own) (w':World),ao_ F own w ee w'->(∀ b∈E.bs,w'.heap[b]? =w.heap[b]?)->aoO F ee w' k m E.v E.bs:=λee w' g hb=>aoO.carry g.apb hb hm;have grow:∀ (a0:Option Addr) (cap:Nat) (bs:List Nat),hd.v=.slice a0 l.length cap->cap<l.length+1->(∀ w1:World,w1.heap=w.heap->(Builtin.firstCells i.size l.length hd.v).run P w1=.ok hd.vs.toArray w1)->hd.vs.length=l.length->bs.Nodup->(∀ b∈bs,b∈hd.bs)->
   aoS F own w k l hd.vs bs->
   ∃ v' hd' w',(Builtin.append_ #[t,t2] ty #[hd.v,u]).run P w=.ok v' w'/\hd'.v=v'/\pt v'=true/\Step F own w (bf h (K.map (λid=>(id,Ob.dead))++[(nx,.aoV k (l++[m]))])) (own.move K nx hd') w':=by
  intro a0 cap bs hv hcap holds hol hbn Y hgi;rw[hv]at holds;have W:=tO (P:=P) (ty:=ty) ht ht2 hi hz holds ⟨au,cu,hue⟩ (news:=[E.v]) hnews hcap h63 hfit;rw[<-hv]at W;have hge:=rM w (l.length+1) cap e;let cs:=hd.vs.toArray++[E.v].toArray++Builtin.zeroCells z.cells (grownCap w (l.length+1) cap e - (l.length+1))
  have hcs:cs.size=grownCap w (l.length+1) cap e:=by
   grind [rj]
  refine⟨_,⟨none,_,hd.vs++[E.v],w.heap.size::(bs++E.bs)⟩,_,W,rfl,rfl,kO hp hn K hK _ _ (λb hb=>?_) (λb hb _=>?_) ?_ rfl rfl rfl λee g=>?_⟩;simp_all <;>grind;exact qD w.drew _ b hb;simp_all;have V:∀ b,b<w.heap.size->(w.drew.alloc (.cells cs e)).heap[b]? =w.heap[b]?:=λb hb=>qD w.drew _ b hb;refine .inr ⟨w.heap.size,0,grownCap w (l.length+1) cap e,cs,e,bs++E.bs,by simp,rfl,?_,kC w.drew _,by omega,by grind,by grind,λq v hq=>?_,?_⟩;rw[alH,amm];refine⟨λhb=>?_,hbn,hnd2,λa ha b hb e=>X a (Y a ha) (e▸hb)⟩;rcases alu.1 hb with hb|hb;grind
  exact al8 _ (hp.lt id2 E _ O hb);grind
  exact aoS.app hone (fin ee _ g λb hb=>V b (hp.lt id2 E b O hb)) (hgi.carry g.apb λb hb=>V b (hlt b (Y b hb)))
 rcases hob with⟨hv,rfl,hvs,hbs⟩ | ⟨b,o,cap,cs,tyb,bs,hv,hbs,hbn,h4,h5,h6,h7,h8,h9⟩;refine grow none 0 [] hv (by simp) (λw1 _=>by simp_all [Builtin.firstCells]) (by rw[hvs];rfl) amx (λb hb=>by cases hb) ?_;rw[hvs];rfl;have hbn':=hbn;rw[hbs,alH]at hbn';by_cases hroom:l.length+1<=cap
 obtain⟨cs',w',q1,q2,q3,q4⟩:=jW (P:=P) (b:=b) (o:=o+l.length*i.size) (ty:=tyb) [E.v] 0 w cs h4 (by grind) (λv hv=>by grind [my]);have W:=wV (P:=P) (ty:=ty) ht ht2 hi (b:=b) (o:=o) (n:=l.length) (cap:=cap) (news:=[E.v]) ⟨au,cu,hue⟩ (hnews w rfl) hroom (w':=w') q1;have V:∀ c,c≠b->w'.heap[c]? =w.heap[c]?:=q2.other;rw[<-hv]at W;refine⟨_,⟨none,_,hd.vs++[E.v],b::(bs++E.bs)⟩,w',W,rfl,rfl,kO hp hn K hK _ _ (λc hc=>?_) (λb' hb' hn'=>q2.other b' λe=>hn' (by grind)) (by rw[q2.size];omega) q2.os q2.tape q2.output λee g=>?_⟩;grind
 refine .inr ⟨b,o,cap,cs',tyb,bs++E.bs,by simp,rfl,?_,q2.here,by omega,by grind,by grind,λq v hq=>?_,?_⟩;grind
 have hvl:=h9.len;rw[al2]at hq;rw[q4,hsz];split at hq
 grind
 rename_i hlt';have:q=hd.vs.length:=by grind
 simp_all;exact aoS.app hone (fin ee _ g λc hc=>V c λe=>X b (by simp[hbs]) (e▸hc)) (h9.carry g.apb λc hc=>V c λe=>hbn'.1 (e▸hc));refine grow _ cap bs hv (by omega) (λw1 hw1=>?_) h9.len hbn'.2 (λc hc=>by grind) h9;rw[hv];refine run_firstCells_some (P:=P) w1 i.size l.length ⟨b,o,none⟩ _ cap hd.vs (by rw[h9.len,hsz,amT]) λj v hj=>?_;grind [nG,eJ]
def _root_.Go.Sx.Own.fz (own:Own)(id:Nat):Own:=λj=>if j=id then(own j).map (λhd=>{ hd with bs:=[]})else own j
theorem aaU(O:Hp F own w h){id:Nat}{hd:Hd}(E:own id=some hd){b:Nat}(W:b∈hd.bs):¬dg F (own.fz id) b:=by
 rintro (X| ⟨j,hj,e,Y⟩);exact O.apart id hd b E W X;simp only[Own.fz]at e;by_cases V:j=id
 grind
 rw[if_neg V]at e;exact V (O.inj j id hj hd b e E Y W)
theorem aaV(E:Hp F own w h){id:Nat}{b:Nat}(Y:w.heap.size<=b):¬dg F (own.fz id) b:=by
 rintro (O| ⟨j,X,e,V⟩);exact absurd (E.aoB b O) (by omega);simp only[Own.fz]at e;by_cases W:j=id
 simp_all <;>grind;rw[if_neg W]at e;exact absurd (E.lt j X b e V) (by omega)
theorem Ug {id:Nat}{hd:Hd}(O:own id=some hd){w':World}(E:∀ b,b<w.heap.size->b ∉ hd.bs->w'.heap[b]? =w.heap[b]?)(V:w.heap.size<=w'.heap.size)(q2:w'.os=w.os)(q3:w'.tape=w.tape)(q4:w'.output=w.output):Fr { w:=w,own:=own} (own.fz id) w':=by
 refine Fr.apr (λj W h1=>?_) (λj W b h1 h2=>?_) (λb hb X=>E b hb λY=>X ⟨id,hd,O,Y⟩) V q2 q3 q4;simp only[Own.fz];by_cases e:j=id
 exact⟨{ W with bs:=[]},by grind,rfl,rfl,rfl⟩;exact⟨W,by grind,.refl _⟩;grind [Own.fz]
theorem JW(W:Hp F own w h){id:Nat}{hd:Hd}(E:own id=some hd){w':World}(O:Ob)(fr:Fr { w:=w,own:=own} (own.fz id) w')(V:∀ b,b<w.heap.size->b ∉ hd.bs->w'.heap[b]? =w.heap[b]?)
  (hob:ao5 F (own.fz id) w' { hd with bs:=[]} O):Step F own w (bf h [(id,O)]) (own.fz id) w':=by
 have hl:id<h.length:=W.dom _ _ E;have hat:∀ j,ap (bf h [(id,O)]) j=if id=j then O else ap h j:=λj=>dG ..;have Y:(bf h [(id,O)]).length=h.length:=by show(cL h id O).length=_;rw[cI,if_pos hl]
 refine⟨W.upd fr.apg (λj=>j=id) (by omega) (λj X=>?_) (λj X hu h1=>?_) (λj hu _=>?_),fr,λj h1 _=>?_⟩;refine⟨by simp[Own.fz,X],by grind,λhd' b h1 h2=>V b (W.lt j hd' b h1 h2) λhm=>X (W.inj j id hd' hd b h1 E h2 hm)⟩;subst hu;simp only[Own.fz,if_pos,E,amn,ak3]at h1;grind
 simp_all [Own.fz];grind [Own.fz]
variable {l:List k.T}
theorem ao1.rs{o b cap:Nat}{cs:Array Value}(hc:l.length<=cap)(W:l.length<=aN)(X:¬dg F own b)(Y:w.heap[b]? =some (.cells cs ty (0,0)))(O:ao1 F own w k l o cs):Rel F own w (.rs k l) (.slice (some ⟨b,o,none⟩) l.length cap):=by
 refine .rs (λi j=>cs.getD (o+i*aa k+j) undef) hc W (λi x hi j s E=>⟨X,?_⟩) (λi x hi j s E=>?_);obtain⟨u,V,_⟩:=O i x hi j s E;rw[eJ Y];simp_all;obtain⟨u,V,e2⟩:=O i x hi j s E;simp_all
theorem OO(hp:Hp F own w h){i:TypeInfo}(ht:P.underlying t=some (.slice e))(ht2:P.underlying t2=some (.slice e2))(hi:P.info? e=some i)(hz:i.zero=some z)(hzs:z.cells.size=i.size)(hk:i.size=aa k)(hby:1<=i.bytes)
   {id:Nat} {hd:Hd} (hid:own id=some hd) (hrow:aoO F own w k l hd.v hd.bs) (hfit:(l++l).length*i.bytes<=d8):
  (l++l).length<=aN/\∃ v' w',(Builtin.append_ #[t,t2] ty #[hd.v,hd.v]).run P w=.ok v' w'/\Rel F (own.fz id) w' (.rs k (l++l)) v'/\Step F own w (bf h [(id,.fz k l)]) (own.fz id) w':=by
 have hlen:(l++l).length<=aN:=by
  have:(l++l).length<=(l++l).length*i.bytes:=amc _ hby;grind [d8,aN]
 refine⟨hlen,?_⟩;have h63:(l++l).length<=9223372036854775807:=by grind [aN]
 obtain⟨news,hs⟩:=JU (P:=P) hrow;have V:=hs.len;have hlen2:=hlen;rw[ak9]at hlen2 h63 hfit;have two:∀ (ee:Own) (w':World),ao_ F own w ee w'->∀ (o:Nat) (cs:Array Value),(∀ (q:Nat) (x:k.T),l[q]? =some x->∀ (j:Nat) (s:SV),(cellsOf k x)[j]? =some s->∃ u,cs[o+q*aa k+j]? =some u/\Rel F own w s u)->
   (∀ (q:Nat) (x:k.T),l[q]? =some x->∀ (j:Nat) (s:SV),(cellsOf k x)[j]? =some s->∃ u,cs[o+l.length*aa k+(q*aa k+j)]? =some u/\Rel F own w s u)->ao1 F ee w' k (l++l) o cs:=by
  intro ee w' g o cs a1 a2 q x X j s hj;rw[al2]at X;split at X
  obtain⟨u,e1,e2⟩:=a1 q x X j s hj;exact⟨u,e1,e2.mono g⟩;rename_i hlt;obtain⟨u,e1,e2⟩:=a2 (q - l.length) x X j s hj;refine⟨u,?_,e2.mono g⟩;have hqq:o+q*aa k+j=o+l.length*aa k+((q - l.length)*aa k+j):=by
   have:q=l.length+(q - l.length):=by omega
   grind
  simp_all
 rcases hrow with⟨a,hv,rfl,hbs⟩ | ⟨b,o,cap,cs,tyb,hv,hbs,h3,h4,h5,h6,h7⟩;have hnw:news=[]:=alk (by simpa using hs.size);subst hnw;have E:=hs.cells w rfl;rw[hv]at V E;have O:=CL (P:=P) (ty:=ty) ht ht2 hi (a0:=a) (cap:=0) V (by rw[hk];exact E);rw[<-hv]at O;have fr:=Ug hid (w':=w) (λ_ _ _=>rfl) (ak2 _) rfl rfl rfl;exact⟨_,w,O,by rw[hv];exact .rs0,JW hp hid _ fr (λ_ _ _=>rfl) (by show Rel F (own.fz id) w (.rs k []) hd.v;rw[hv];exact .rs0)⟩;have hnb:¬dg F (own.fz id) b:=aaU hp hid (by simp[hbs]);have E:=hs.cells;rw[hv]at V E;by_cases hroom:l.length+l.length<=cap
 have hfits:o+l.length*aa k+news.length<=cs.size:=by
  rw[hs.size];have:(l.length+l.length)*aa k<=cap*aa k:=alg _ hroom;grind
 obtain⟨cs',w',q1,q2,q3,q4⟩:=jW (P:=P) (b:=b) (o:=o+l.length*aa k) (ty:=tyb) news 0 w cs h3 (by omega) hs.one;have O:=wV (P:=P) (ty:=ty) ht ht2 hi (b:=b) (o:=o) (n:=l.length) (cap:=cap) V (by rw[hk];exact E w rfl) hroom (w':=w') (by grind);rw[<-hv]at O;have W:∀ Y,Y<w.heap.size->Y ∉ hd.bs->w'.heap[Y]? =w.heap[Y]?:=λY _ hn=>q2.other Y λe=>hn (by grind);have fr:=Ug hid W (by rw[q2.size];omega) q2.os q2.tape q2.output;have hat:=two _ _ fr.apg o cs' (λq x X j s hj=>by
   obtain⟨u',e1,e2⟩:=h7 q x X j s hj;refine⟨u',?_,e2⟩;have hjl:j<aa k:=by grind [bK]
   have hlt:=(ak4.1 X).1;have:(q+1)*aa k<=l.length*aa k:=alg _ hlt;grind) (λq x X j s hj=>by
   obtain⟨u',e1,e2⟩:=hs.rel q x X j s hj;refine⟨u',?_,e2⟩;have hb:=(ak4.1 e1).1;simp_all)
 refine⟨_,w',O,?_,JW hp hid _ fr W ?_⟩;have:=ao1.rs (cap:=cap) (by grind) hlen hnb q2.here hat;grind
 show Rel F (own.fz id) w' (.rs k l) hd.v;rw[hv];exact ao1.rs h5 h6 hnb q2.here λq x X=>hat q x (by grind);have O:=tO (P:=P) (ty:=ty) (a0:=some ⟨b,o,none⟩) (n:=l.length) (olds:=news) ht ht2 hi hz (λw1 hw1=>by rw[hk];exact E w1 hw1) V (by rw[hk];exact E) (by omega) h63 hfit;rw[<-hv]at O;have hge:=rM w (l.length+l.length) cap e;let cs2:=news.toArray++news.toArray++Builtin.zeroCells z.cells (grownCap w (l.length+l.length) cap e - (l.length+l.length))
 have W:∀ Y,Y<w.heap.size->(w.drew.alloc (.cells cs2 e)).heap[Y]? =w.heap[Y]?:=λY hb'=>qD w.drew _ Y hb';have fr:=Ug hid (w':=w.drew.alloc (.cells cs2 e)) (λY hb' _=>W Y hb') (by grind) rfl rfl rfl;have hat:=two _ _ fr.apg 0 cs2 (λq x X j s hj=>by
   obtain⟨u',e1,e2⟩:=hs.rel q x X j s hj;grind) (λq x X j s hj=>by
   obtain⟨u',e1,e2⟩:=hs.rel q x X j s hj;refine⟨u',?_,e2⟩;have hb:=(ak4.1 e1).1;have hsz:=hs.size;rw[ak8,<-hsz];simp only[cs2];simp_all [alq])
 refine⟨_,_,O,?_,JW hp hid _ fr (λY hb' _=>W Y hb') ?_⟩;have:=ao1.rs (cap:=grownCap w (l.length+l.length) cap e) (by grind) hlen (aaV hp (id:=id) (ak2 _)) (kC w.drew _) hat;grind
 show Rel F (own.fz id) _ (.rs k l) hd.v;rw[hv];refine ao1.rs h5 h6 hnb (by rw[W b (rL h3)];exact h3) λq x X j s hj=>?_;obtain⟨u',e1,e2⟩:=h7 q x X j s hj;exact⟨u',e1,e2.mono fr.apg⟩
theorem OP(hp:Hp F own w h){Y:TypeId}{i:TypeInfo}(ht:P.underlying t=some (.slice e))(ht2:P.underlying t2=some (.slice Y))(hi:P.info? e=some i)(hz:i.zero=some z)(hzs:z.cells.size=i.size)(hk:i.size=aa k)(hby:1<=i.bytes)
   (hm:m≠[]) {a:Option Addr} {u:Value} {olds news:List Value} (ho:Src P F own w k l (.slice a l.length l.length) olds) (hs:Src P F own w k m u news) (V:(l++m).length*i.bytes<=d8):
  (l++m).length<=aN/\∃ v' w',(Builtin.append_ #[t,t2] ty #[.slice a l.length l.length,u]).run P w=.ok v' w'/\Rel F own w' (.rs k (l++m)) v'/\Step F own w (bf h []) own w':=by
 have E:(l++m).length<=aN:=by
  have:(l++m).length<=(l++m).length*i.bytes:=amc _ hby;grind [d8,aN]
 refine⟨E,?_⟩;have h63:(l++m).length<=9223372036854775807:=by grind [aN]
 have W:=E;rw[ak9]at W h63 V;have hm1:0<m.length:=alO.2 hm;have hrun:=tO (P:=P) (w:=w) (ty:=ty) (a0:=a) (n:=l.length) (olds:=olds) ht ht2 hi hz (λw1 hw1=>by rw[hk];exact ho.cells w1 hw1) hs.len (by rw[hk];exact hs.cells) (by omega) h63 V;let cs2:=olds.toArray++news.toArray++Builtin.zeroCells z.cells (grownCap w (l.length+m.length) l.length e - (l.length+m.length))
 have O:Below w.heap.size w (w.drew.alloc (.cells cs2 e)):=⟨rfl,rfl,rfl,by show w.heap.size<=(w.heap.push _).size;rw[Array.size_push];omega,λb O=>qD w.drew _ b O⟩;have hge:=rM w (l.length+m.length) l.length e;refine⟨_,_,hrun,?_,hp.below O,(Fr.refl { w:=w,own:=own}).below O,λ_ h1 _=>h1⟩;have g:ao_ F own w own (w.drew.alloc (.cells cs2 e)):=((Fr.refl { w:=w,own:=own}).below O).apg;have:=ao1.rs (F:=F) (own:=own) (k:=k) (l:=l++m) (cap:=grownCap w (l.length+m.length) l.length e) (by grind) E (λho=>by
  rcases ho with hf| ⟨j,hj,e,hm⟩;exact absurd (hp.aoB _ hf) (al8 _);exact absurd (hp.lt j hj _ e hm) (al8 _)) (kC w.drew (.cells cs2 e)) (o:=0) (λq x hq j s hj=>by
  have o1:=ho.size;have o2:=hs.size;have hjl:j<aa k:=by grind [bK]
  rw[al2]at hq;split at hq
  rename_i hlt;obtain⟨u',X,Y⟩:=ho.rel q x hq j s hj;refine⟨u',?_,Y.mono g⟩;have:(q+1)*aa k<=l.length*aa k:=alg _ hlt;have O:=(ak4.1 X).1;rw[ak8];simp only[cs2];rw[alq (by simp;omega),alq (by simpa using O)];simpa using X;rename_i hge;obtain⟨u',X,Y⟩:=hs.rel (q - l.length) x hq j s hj;refine⟨u',?_,Y.mono g⟩;have O:=(ak4.1 X).1;have hqq:0+q*aa k+j=olds.length+((q - l.length)*aa k+j):=by
   have:q=l.length+(q - l.length):=by omega
   grind
  rw[hqq];simp only[cs2];rw[alq (by simp;omega),amq (by simp)];simpa using X)
 rw[ak9]at this;exact this
def CN (F:Nat->Prop)(own:Own)(w:World)(h:List Ob)(run:Result Value)(r:OR):Prop:=
 ∃ c a ups s,r=.eff c a ups s/\(c->a/\∃ u ee w',run=.ok u w'/\Rel F ee w' s u/\Step F own w (bf h ups) ee w')
theorem DR(hp:Hp F own w h){nx:Nat}(hn:apB own h nx){ti Y te:TI}(ht:jn P t=some ti)(ht2:jn P t2=some Y)(hte:jn P ti.elem=some te)(hsl:ti.isSlice=true)(arF:Y.isSlice=true)
    {u:Value} {bs:List Nat} (X:aoO F own w k l v bs) {K:List Nat} (hK:∀ id∈K,∃ hd,own id=some hd) (hKb:∀ b∈bs,∃ id∈K,∃ hd,own id=some hd/\b∈hd.bs) (hKo:∀ id∈K,∀ hd,own id=some hd->∀ b∈hd.bs,b∈bs) {V:SV} (W:Rel F own w V u) {r:OR} (E:wq te nx (K.map λid=>(id,Ob.dead)) h V (.row k l)=r) (hne:r≠ .bad):
  CN F own w h ((Builtin.append_ #[t,t2] ty #[v,u]).run P w) r:=by
 obtain⟨i,d,z,hi,hd,hz,hq,rfl⟩:=bY ht;obtain⟨i2,d2,z2,hi2,hd2,hz2,hq2,rfl⟩:=bY ht2;obtain⟨ie,de,ze,hie,hde,hze,hqe,O⟩:=bY hte;cases d <;>simp[dP]at hsl;cases d2 <;>simp[dP]at arF;rename_i e e2;simp only[dP]at hie;simp only[wq]at E;cases hc:Nat.beq te.size (aa k)&&Nat.beq (sz te.zero) te.size&&Nat.ble 1 te.bytes with
 |false=>grind
 |true=>
  rw[hc]at E;simp only[cond_true]at E;cases hs:ur k h V with
  |none=>rw[hs]at E;exact absurd E.symm hne
  |some m=>
   rw[hs]at E;simp only[TR]at E;subst E;simp only[akZ,qF]at hc;have hes:te.size=ie.size:=by rw[O];rfl
   have heb:te.bytes=ie.bytes:=by rw[O];rfl
   have hez:te.zero=svs ze:=by simp_all [dP]
   have c1:=ak0 hc.1.1;have c2:=ak0 hc.1.2;have c3:=nbl hc.2;obtain⟨news,hsr⟩:=JV (P:=P) hp W hs;refine⟨_,_,_,_,rfl,λhfit=>?_⟩;obtain⟨q1,v',hd',w',q2,q3,q4,q5⟩:=Sj (P:=P) (ty:=ty) hp hn hd hd2 hie hze (by grind [svs]) (k:=k) (by omega) (by omega) (.inl X) hK hKb hKo hsr (by grind);refine⟨q1,v',_,w',q2,?_,q5⟩;rw[<-q3];exact .os (by simp[Own.move]) (by grind)
theorem XW(hp:Hp F own w h){nx:Nat}(hn:apB own h nx){ti ti2 te:TI}(ht:jn P t=some ti)(ht2:jn P t2=some ti2)(hte:jn P ti.elem=some te)(hsl:ti.isSlice=true)(Y:ti2.isSlice=true)
  {l:List SV} {vs:Array Value} (hl:aoX F own w l vs) {r:OR} (E:mv te nx h l=r) (W:r≠ .bad):CN F own w h ((Builtin.append_ #[t,t2] ty vs).run P w) r:=by
 have two:∀ (d s:SV),l=[d,s]->∃ vd vu,vs= #[vd,vu]/\Rel F own w d vd/\Rel F own w s vu:=by
  rintro d s rfl;obtain⟨⟨a⟩⟩:=vs;exact absurd hl.1 (by simp);rename_i x xs;cases xs with
  |nil=>exact absurd hl.1 (by simp)
  |cons y ys=>
   cases ys with
   |nil=>exact⟨x,y,rfl,by simpa using hl.2 0 _ rfl,by simpa using hl.2 1 _ rfl⟩
   |cons _ _=>exact absurd hl.1 (by simp)
 have aoV:∀ (e e2:TypeId) (ie:TypeInfo) (ze:Value),P.underlying t=some (.slice e)->P.underlying t2=some (.slice e2)->P.info? e=some ie->ie.zero=some ze->te.size=ie.size->te.bytes=ie.bytes->te.zero=svs ze->True:=λ_ _ _ _ _ _ _ _ _ _ _=>trivial;obtain⟨i,d,z,hi,hd,hz,hq,hti⟩:=bY ht;obtain⟨i2,d2,z2,hi2,X,hz2,hq2,hti2⟩:=bY ht2;obtain⟨ie,de,ze,hie,hde,hze,hqe,hte'⟩:=bY hte;have hes:te.size=ie.size:=by rw[hte'];rfl
 have heb:te.bytes=ie.bytes:=by rw[hte'];rfl
 have hez:te.zero=svs ze:=by simp_all [dP]
 have hsle:∃ e,d=.slice e/\P.info? e=some ie:=by
  subst hti;cases d <;>simp[dP]at hsl;grind [dP]
 have hsle2:∃ e,d2=.slice e:=by
  subst hti2;cases d2 <;>simp[dP]at Y;grind
 obtain⟨e,rfl,hie'⟩:=hsle;obtain⟨e2,rfl⟩:=hsle2;unfold mv at E;split at E
 ·rename_i id id2;obtain⟨vd,vu,rfl,V,O⟩:=two _ _ rfl;cases hc:Nat.beq te.size 1&&Nat.beq (sz te.zero) 1&&Nat.ble 1 te.bytes&& !(Nat.beq id id2)with
  |false=>grind
  |true=>
   rw[hc]at E;simp only[cond_true]at E;simp only[akZ,qF,alm]at hc;have c1:=ak0 hc.1.1.1;have c2:=ak0 hc.1.1.2;have c3:=nbl hc.1.2;have hne2:id≠id2:=λe=>by simp_all
   cases ho:ap h id with
   |aoV k l=>
    rw[ho]at E;simp only[Ek]at E;cases ho2:ap h id2 with
    |row k' m'=>
     rw[ho2]at E;simp only[TQ]at E;cases hcast:zT k k' m' with
     |none=>rw[hcast]at E;exact absurd E.symm W
     |some m=>
      obtain⟨ek,rfl⟩:=sC hcast;subst ek;rw[hcast]at E;simp only[Ej]at E;subst E;obtain⟨hdd,h1,rfl,h2⟩:=iz V;obtain⟨hd',e0,e1⟩:=hp.at ho rfl;rw[h1]at e0;cases e0;have h2id:∃ X,own id2=some X/\pt X.v=true:=by
       cases O with
       |ls c hz h0 q1 q2=>obtain⟨hd3,q3,q4,q5⟩:=iz (q2 0 _ rfl);grind
      obtain⟨hdd2,h3,h4⟩:=h2id;refine⟨_,_,_,_,rfl,λhfit=>?_⟩;obtain⟨q1,v',hd',w',q2,q3,q4,q5⟩:=EG (P:=P) (ty:=ty) hp hn hd X hie' hze (by omega) (by grind [svs]) (by omega) h3 ho2 h4 e1 (.inr ⟨id,hne2,h1,rfl⟩) O (by grind);refine⟨q1,v',_,w',q2,?_,q5⟩;rw[<-q3];exact .os (by simp[Own.move]) (by grind)
    |_=>rw[ho2]at E;exact absurd E.symm W
   |_=>rw[ho]at E;exact absurd E.symm W
 ·rename_i id2;obtain⟨vd,vu,rfl,V,O⟩:=two _ _ rfl;cases hc:Nat.beq te.size 1&&Nat.beq (sz te.zero) 1&&Nat.ble 1 te.bytes with
  |false=>grind
  |true=>
   rw[hc]at E;simp only[cond_true]at E;simp only[akZ,qF]at hc;have c1:=ak0 hc.1.1;have c2:=ak0 hc.1.2;have c3:=nbl hc.2;cases ho2:ap h id2 with
   |row k m=>
    rw[ho2]at E;simp only[XG,Ej]at E;subst E;have:=cT V;subst this;have h2id:∃ X,own id2=some X/\pt X.v=true:=by
     cases O with
     |ls c hz h0 q1 q2=>obtain⟨hd3,q3,q4,q5⟩:=iz (q2 0 _ rfl);grind
    obtain⟨hdd2,h3,h4⟩:=h2id;refine⟨_,_,_,_,rfl,λhfit=>?_⟩;obtain⟨q1,v',hd',w',q2,q3,q4,q5⟩:=EG (P:=P) (ty:=ty) (l:=[]) (hd:=⟨none,.slice none 0 0,[],[]⟩) hp hn hd X hie' hze (by omega) (by grind [svs]) (by omega) h3 ho2 h4 (.inl ⟨rfl,rfl,rfl,rfl⟩) (.inl ⟨rfl,rfl⟩) O (by grind);refine⟨q1,v',_,w',q2,?_,q5⟩;rw[<-q3];exact .os (by simp[Own.move]) (by grind)
   |_=>rw[ho2]at E;exact absurd E.symm W
 rename_i id id2;obtain⟨vd,vu,rfl,V,O⟩:=two _ _ rfl;obtain⟨hdd,h1,rfl,h2⟩:=iz V;cases heq:Nat.beq id id2 with
 |true=>
  have apW:=ak0 heq;subst apW;rw[heq]at E;simp only[cond_true]at E;obtain⟨hdd',h1',rfl,_⟩:=iz O;rw[h1]at h1';cases h1';cases ho:ap h id with
  |row k l=>
   rw[ho]at E;simp only[XH]at E;obtain⟨hd',e0,e1⟩:=hp.at ho rfl;rw[h1]at e0;cases e0;cases hc:Nat.beq te.size (aa k)&&Nat.beq (sz te.zero) te.size&&Nat.ble 1 te.bytes with
   |false=>grind
   |true=>
    rw[hc]at E;simp only[cond_true]at E;subst E;simp only[akZ,qF]at hc;have c1:=ak0 hc.1.1;have c2:=ak0 hc.1.2;have c3:=nbl hc.2;refine⟨_,_,_,_,rfl,λhfit=>?_⟩;obtain⟨q1,v',w',q2,q3,q4⟩:=OO (P:=P) (ty:=ty) hp hd X hie' hze (by grind [svs]) (k:=k) (by omega) (by omega) h1 e1 (by grind);grind
  |_=>rw[ho]at E;simp[XH]at E;exact absurd E.symm W
 |false=>
  rw[heq]at E;simp only[cond_false]at E;cases ho:ap h id with
  |row k l=>
   rw[ho]at E;obtain⟨hd',e0,e1⟩:=hp.at ho rfl;rw[h1]at e0;cases e0;exact DR (P:=P) (K:=[id]) hp hn ht ht2 hte hsl Y e1 (by grind) (λb hb=>⟨id,by simp,hdd,h1,hb⟩) (λid' hid hd' hh b hb=>by grind) O E W
  |_=>rw[ho]at E;simp[wq]at E;exact absurd E.symm W
 rename_i id src _ _;obtain⟨vd,vu,rfl,V,O⟩:=two _ _ rfl;obtain⟨hdd,h1,rfl,h2⟩:=iz V;cases ho:ap h id with
 |row k l=>
  rw[ho]at E;obtain⟨hd',e0,e1⟩:=hp.at ho rfl;rw[h1]at e0;cases e0;exact DR (P:=P) (K:=[id]) hp hn ht ht2 hte hsl Y e1 (by grind) (λb hb=>⟨id,by simp,hdd,h1,hb⟩) (λid' hid hd' hh b hb=>by grind) O E W
 |_=>rw[ho]at E;simp[wq]at E;exact absurd E.symm W
 obtain⟨vd,vu,rfl,V,O⟩:=two _ _ rfl;have:=cT V;subst this;unfold vh at E;split at E
 rename_i k _;exact DR (P:=P) (K:=[]) (l:=[]) (bs:=[]) hp hn ht ht2 hte hsl Y (.inl ⟨none,rfl,rfl,rfl⟩) (by simp) (λb hb=>by cases hb) (λid hid=>by cases hid) O E W;grind
 obtain⟨vd,vu,rfl,V,O⟩:=two _ _ rfl;cases V with
 |e0=>
  unfold vh at E;split at E
  rename_i k _;exact DR (P:=P) (K:=[]) (l:=[]) (bs:=[]) hp hn ht ht2 hte hsl Y (.inl ⟨_,rfl,rfl,rfl⟩) (by simp) (λb hb=>by cases hb) (λid hid=>by cases hid) O E W;grind
 rename_i k l src;obtain⟨vd,vu,rfl,V,O⟩:=two _ _ rfl;cases V with
 |rc V=>
  unfold XI at E;cases hc:Nat.beq te.size (aa k)&&Nat.beq (sz te.zero) te.size&&Nat.ble 1 te.bytes with
  |false=>grind
  |true=>
   rw[hc]at E;simp only[cond_true]at E;cases hs:ur k h src with
   |none=>rw[hs]at E;exact absurd E.symm W
   |some m=>
    rw[hs]at E;simp only[TS]at E;cases m with
    |nil=>exact absurd E.symm W
    |cons x m=>
     simp only[Ow,cond_true]at E;subst E;simp only[akZ,qF]at hc;have c1:=ak0 hc.1.1;have c2:=ak0 hc.1.2;have c3:=nbl hc.2;obtain⟨news,hsr⟩:=JV (P:=P) hp O hs;obtain⟨olds,hol⟩:=JV (P:=P) hp V (k:=k) (m:=l) (by simp[ur,zT]);refine⟨_,_,_,_,rfl,λhfit=>?_⟩;obtain⟨q1,v',w',q2,q3,q4⟩:=OP (P:=P) (ty:=ty) hp hd X hie' hze (by grind [svs]) (k:=k) (by omega) (by omega) (by simp) hol hsr (by grind);exact⟨q1,v',own,w',q2,q3,q4⟩
 grind
end
section
variable {P:Program}{F:Nat->Prop}{own:Own}{w:World}
theorem OQ:∀ {l m:List SV},ve l m=true->∀ {vs:Array Value},aoX F own w m vs->aoX F own w l vs:=by
 have one:∀ {a b:SV} {v:Value},Qq a b=true->Rel F own w b v->Rel F own w a v:=by
  intro a b v h hr;unfold Qq at h;split at h
  rename_i k x k' y;simp only[akZ]at h;grind [OC]
  simp_all;exact hr;have:=cT hr;subst this;exact .rs0;have:=cT hr;subst this;exact .rm0;exact hr;cases h
 intro l m h vs hr;have len:∀ {l m:List SV},ve l m=true->l.length=m.length:=by
  intro l;induction l with
  |nil=>grind [ve]
  |cons a l O=>intro m h;cases m with
   |nil=>simp[ve]at h|cons b m=>grind [ve]
 have get:∀ {l m:List SV} (j:Nat) (s:SV),ve l m=true->l[j]? =some s->∃ b,m[j]? =some b/\Qq s b=true:=by
  intro l;induction l with
  |nil=>grind
  |cons a l O=>
   intro m j s h E;cases m with
   |nil=>grind
   |cons b m=>
    grind [ve]
 refine⟨by rw[len h];exact hr.1,λj s E=>?_⟩;obtain⟨b,h1,h2⟩:=get j s h E;exact one h2 (hr.2 j b h1)
theorem QI {a b:Bool}(h:Db a b=true):a=b:=by cases a <;>cases b <;>simp[Db]at h |-
variable {t:TypeId}{k:Tag}
theorem Bp{i:TypeInfo}(h:yF P t i=some k):Eb P t i k=true:=by
 grind [yF]
theorem z9{i:TypeInfo}(h:yF P t i=some k):i.size=aa k/\1<=i.bytes/\kl P t=oo k/\∀ z,i.zero=some z->aoX F own w (cellsOf k (eG k)) z.cells/\Ea z=oo k:=by
 have E:=Bp h;simp only[Eb,akZ]at E;refine⟨ak0 E.1.1.1.2,nbl E.1.1.2,QI E.2,λz O=>?_⟩;grind [OQ,xM,QI]
theorem Bq(h:LM P t=some k):∃ i,P.info? t=some i/\yF P t i=some k:=by
 grind [LM]
theorem zb {d:Int}{o:Option SV}{v:Option Value}(E:∀ s,o=some s->∃ u,v=some u/\Rel F own w s u)(hn:o=none->v=none){n:Int}(h:bnd d o=some n):(v=none/\n=d)\/∃ k,v=some (.int k n):=by
 unfold bnd at h;grind [cT]
theorem mX {k:IntKind}{n:Int}{y:Nat}{E:BoundsCode}(h:0<=n/\n<=(y:Int)):(Instr.sliceBound (.int k n) y E).run P w=.ok n.toNat w:=by
 simp_all [Instr.sliceBound,tL]
theorem jX {len cap:Nat}{lo hi:Option Value}{a b:Int}(E:(lo=none/\a=0)\/∃ k,lo=some (.int k a))(O:(hi=none/\b=(len:Int))\/∃ k,hi=some (.int k b))(h:0<=a/\a<=b/\b<=(len:Int))(hc:len<=cap):
  (Instr.sliceBounds true len cap lo hi none).run P w=.ok (a.toNat,b.toNat,cap) w:=by
 rcases O with⟨rfl,rfl⟩ | ⟨k2,rfl⟩ <;>rcases E with⟨rfl,rfl⟩ | ⟨V,rfl⟩;simp[Instr.sliceBounds];simp[Instr.sliceBounds,mX (P:=P) (w:=w) (k:=V) (n:=a) (y:=len) ⟨h.1,h.2.1⟩];simp[Instr.sliceBounds,mX (P:=P) (w:=w) (k:=k2) (n:=b) (y:=cap) ⟨by omega,by omega⟩];simp[Instr.sliceBounds,mX (P:=P) (w:=w) (k:=k2) (n:=b) (y:=cap) ⟨by omega,by omega⟩,mX (P:=P) (w:=w) (k:=V) (n:=a) (y:=b.toNat) ⟨h.1,by omega⟩]
variable {h:List Ob}{ti te:TI}{v:Value}{lo hi:Option SV}{vlo X:Option Value}{r:OR}
theorem Sk(hp:Hp F own w h){nx:Nat}(hn:apB own h nx)(ht:jn P t=some ti)(hte:jn P ti.elem=some te){s:SV}(hr:Rel F own w s v)
  (h1:∀ s,lo=some s->∃ u,vlo=some u/\Rel F own w s u) (h1':lo=none->vlo=none) (h2:∀ s,hi=some s->∃ u,X=some u/\Rel F own w s u) (h2':hi=none->X=none)  {vq:Bool} (hvq:vq=true->hi=none) (O:mN ti te.size nx h lo hi vq s=r) (hne:r≠ .bad):
  (∃ c s',r=.chk c s'/\(c->∃ u,(Instr.sliceAt t v vlo X none).run P w=.ok u w/\Rel F own w s' u))\/CN F own w h ((Instr.sliceAt t v vlo X none).run P w) r:=by
 obtain⟨i,d,z,hi',hd,hz,hq,rfl⟩:=bY ht;obtain⟨ie,de,ze,hie,hde,hze,hqe,hte'⟩:=bY hte;have hes:te.size=ie.size:=by rw[hte'];rfl
 have slice:(dP P t i d).isSlice=true->∃ e,d=.slice e/\P.info? e=some ie:=λhs=>by
  cases d <;>simp[dP]at hs;grind [dP]
 cases hr with
 |rs cf q0 q0' q1 q2=>
  rename_i k l b o cap;left;simp only[mN]at O;cases Y:(dP P t i d).isSlice&&Nat.beq te.size (aa k)with
  |false=>grind
  |true=>
   rw[Y]at O;simp only[cond_true]at O;simp only[akZ]at Y;obtain⟨e,rfl,W⟩:=slice Y.1;have hsz:=ak0 Y.2;unfold XL at O;split at O
   rename_i a c ha hc;refine⟨_,_,O.symm,λE=>?_⟩;have b1:=zb h1 h1' ha;have b2:=zb h2 h2' hc;have V:=jX (P:=P) (w:=w) b1 b2 E q0;have hlen:((l.take c.toNat).drop a.toNat).length=c.toNat - a.toNat:=by simp;omega
   refine⟨.slice (if cap=a.toNat then some ⟨b,o,none⟩else some ⟨b,o+a.toNat*ie.size,none⟩) (c.toNat - a.toNat) (cap - a.toNat),?_,?_⟩;simp only[Instr.sliceAt,Instr.slice,alv,run_underlying hd,alh,V,dQ W,amp,amn,nG];rw[<-hlen];by_cases hca:cap=a.toNat
   have:(l.take c.toNat).drop a.toNat=[]:=alk (by omega);rw[this];exact .rs0;rw[if_neg hca];refine Rel.rs (F:=F) (own:=own) (w:=w) (λi j=>cf (a.toNat+i) j) (by omega) (by omega) (λi x hx j s hj=>?_) (λi x hx j s hj=>?_);simp_all <;>grind;grind
   grind
 |rs0=>
  rename_i k a0 cap;left;simp only[mN]at O;cases Y:(dP P t i d).isSlice&&Nat.beq te.size (aa k)with
  |false=>grind
  |true=>
   rw[Y]at O;simp only[cond_true]at O;simp only[akZ]at Y;obtain⟨e,rfl,W⟩:=slice Y.1;unfold XL at O;split at O
   rename_i a c ha hc;refine⟨_,_,O.symm,λE=>?_⟩;have b1:=zb h1 h1' ha;have b2:=zb h2 h2' hc;have V:=jX (P:=P) (w:=w) (cap:=cap) b1 b2 E (alB _);simp only[alo,anq]at E;have ea:a=0:=by omega
   have ec:c=0:=by omega
   subst ea;subst ec;refine⟨_,by
    simp only[Instr.sliceAt,Instr.slice,alv,run_underlying hd,alh];simp only[alo,amU]at V;simp only[V,alh,alv,dQ W,amp];rfl,?_⟩
   simp only[List.take_nil,List.drop_nil];exact .rs0;grind
 |os g1 g2=>
  rename_i id hdd;simp only[mN]at O;cases Y:(dP P t i d).isSlice with
  |false=>grind
  |true=>
   rw[Y]at O;simp only[cond_true]at O;obtain⟨e,rfl,W⟩:=slice Y;cases vq with
   |true=>
    left;simp only[cond_true]at O;cases ho:ap h id with
    |row k l=>
     rw[ho]at O;simp only[TU]at O;cases hb2:Nat.beq te.size (aa k)with
     |false=>grind
     |true=>
      rw[hb2]at O;simp only[cond_true]at O;unfold TT at O;split at O
      rename_i a ha;refine⟨_,_,O.symm,λE=>?_⟩;obtain⟨hd',e0,e1⟩:=hp.at ho rfl;rw[g1]at e0;cases e0;have b1:=zb h1 h1' ha;have b2:(X=none/\(l.length:Int)=(l.length:Int))\/∃ k,X=some (.int k (l.length:Int)):=.inl ⟨h2' (hvq rfl),rfl⟩;have hcnd':0<=a/\a<=(l.length:Int)/\(l.length:Int)<=(l.length:Int):=⟨E.1,E.2,alJ _⟩;rcases e1 with⟨a0,m1,rfl,m3⟩ | ⟨b,o,cap,cs,ty,m1,m2,m3,m4,m5,m6,m7⟩;simp only[alo,anq]at E;have ea:a=0:=by omega
      subst ea;have V:=jX (P:=P) (w:=w) (cap:=0) b1 b2 hcnd' (alB _);simp only[alo,amU,anq]at V;refine⟨.slice a0 0 0,?_,Rel.vw (lo:=0) (hi:=(([]:List k.T).length:Int)) (cap:=0) (a:=a0) g1 (.inl (by simp)) (by simp)⟩;simp_all [Instr.sliceAt,Instr.slice,run_underlying,dQ];have V:=jX (P:=P) (w:=w) b1 b2 hcnd' m5;refine⟨.slice (if cap=a.toNat then some ⟨b,o,none⟩else some ⟨b,o+a.toNat*ie.size,none⟩) ((l.length:Int).toNat - a.toNat) (cap - a.toNat),?_,Rel.vw g1 ?_ (by omega)⟩;rw[m1];simp only[Instr.sliceAt,Instr.slice,alv,run_underlying hd,alh,V,dQ W,amp,amn,nG];by_cases hca:cap=a.toNat
      exact .inl (by omega);rw[if_neg hca];exact .inr ⟨b,o,_,cap,m1,by omega,by rw[hes]⟩;grind
    |_=>rw[ho]at O;exact absurd O.symm hne
   |false=>
   right;simp only[cond_false]at O;cases ho:ap h id with
   |row k l=>
    rw[ho]at O;simp only[XN]at O;cases hb2:Nat.beq te.size (aa k)with
    |false=>grind
    |true=>
     rw[hb2]at O;simp only[cond_true]at O;have hsz:=ak0 hb2;unfold XM at O;split at O
     rename_i a c ha hc;subst O;obtain⟨hd',e0,e1⟩:=hp.at ho rfl;rw[g1]at e0;cases e0;have b1:=zb h1 h1' ha;have b2:=zb h2 h2' hc;refine⟨_,_,_,_,rfl,λE=>⟨trivial,?_⟩⟩;have hK:∀ id'∈[id],∃ hd,own id'=some hd:=by grind
     have hlen:((l.take c.toNat).drop a.toNat).length=c.toNat - a.toNat:=by simp;omega
     rcases e1 with⟨a0,m1,rfl,m3⟩ | ⟨b,o,cap,cs,ty,m1,m2,m3,m4,m5,m6,m7⟩;simp only[alo,anq]at E;have ea:a=0:=by omega
     have ec:c=0:=by omega
     subst ea;subst ec;have V:=jX (P:=P) (w:=w) (cap:=0) b1 b2 E (alB _);simp only[alo,amU]at V;refine⟨.slice a0 0 0,_,w,?_,?_,kO hp hn [id] hK ⟨none,.slice a0 0 0,[],[]⟩ _ (λb Y=>by simp at Y) (λ_ _ _=>rfl) (ak2 _) rfl rfl rfl λee g=>.inl ⟨a0,rfl,rfl,rfl⟩⟩;simp_all [Instr.sliceAt,Instr.slice,run_underlying,dQ];have:=Rel.os (F:=F) (own:=own.move [id] nx ⟨none,.slice a0 0 0,[],[]⟩) (w:=w) (id:=nx) (hd:=⟨none,.slice a0 0 0,[],[]⟩) (by simp[Own.move]) rfl;exact this;have V:=jX (P:=P) (w:=w) b1 b2 E m5;have hrun:(Instr.sliceAt t hdd.v vlo X none).run P w=.ok (.slice (if cap=a.toNat then some ⟨b,o,none⟩else some ⟨b,o+a.toNat*ie.size,none⟩) (c.toNat - a.toNat) (cap - a.toNat)) w:=by
      rw[m1];simp only[Instr.sliceAt,Instr.slice,alv,run_underlying hd,alh,V,dQ W,amp,amn,nG]
     by_cases hca:cap=a.toNat
     have aqx:(l.take c.toNat).drop a.toNat=[]:=alk (by omega);rw[if_pos hca,show c.toNat - a.toNat=0 by omega,show cap - a.toNat=0 by omega]at hrun;refine⟨_,_,w,hrun,?_,kO hp hn [id] hK ⟨none,.slice (some ⟨b,o,none⟩) 0 0,[],[]⟩ _ (λb Y=>by simp at Y) (λ_ _ _=>rfl) (ak2 _) rfl rfl rfl λee g=>.inl ⟨_,rfl,aqx,rfl⟩⟩;exact Rel.os (F:=F) (own:=own.move [id] nx ⟨none,.slice (some ⟨b,o,none⟩) 0 0,[],[]⟩) (w:=w) (id:=nx) (hd:=⟨none,.slice (some ⟨b,o,none⟩) 0 0,[],[]⟩) (by simp[Own.move]) rfl;rw[if_neg hca,<-hlen]at hrun;refine⟨_,_,w,hrun,Rel.os (F:=F) (own:=own.move [id] nx ⟨none,.slice (some ⟨b,o+a.toNat*ie.size,none⟩) ((l.take c.toNat).drop a.toNat).length (cap - a.toNat),[],[b]⟩) (w:=w) (id:=nx) (hd:=⟨none,.slice (some ⟨b,o+a.toNat*ie.size,none⟩) ((l.take c.toNat).drop a.toNat).length (cap - a.toNat),[],[b]⟩) (by simp[Own.move]) rfl,kO hp hn [id] hK _ _ (λb' hb'=>by grind) (λ_ _ _=>rfl) (ak2 _) rfl rfl rfl λee g=>.inr ⟨b,o+a.toNat*ie.size,cap - a.toNat,cs,ty,rfl,rfl,m3,?_,by omega,by omega,λi x hx j s hj=>?_⟩⟩;rw[<-hes,hsz];have:cap*aa k=a.toNat*aa k+(cap - a.toNat)*aa k:=by rw[<-anx];grind
     omega;obtain⟨e1,e2⟩:=yJ hx;obtain⟨u,n1,n2⟩:=m7 _ x e1 j s hj;refine⟨u,?_,n2.mono g⟩;grind
     grind
   |_=>rw[ho]at O;exact absurd O.symm hne
 |_=>simp only[mN]at O;exact absurd O.symm hne
theorem Uh(ht:jn P t=some ti)(hte:jn P ti.elem=some te){s sm:SV}{vm:Value}(hr:Rel F own w s v)(hm:Rel F own w sm vm)
  (Y:lo=none->vlo=none) (h2:∀ s,hi=some s->∃ u,X=some u/\Rel F own w s u)  (E:El ti lo hi sm s=r) (hne:r≠ .bad):
  ∃ c s',(r=.val s'/\c\/r=.chk c s')/\(c->∃ u,(Instr.sliceAt t v vlo X (some vm)).run P w=.ok u w/\Rel F own w s' u):=by
 obtain⟨i,d,z,hi',hd,hz,hq,rfl⟩:=bY ht;obtain⟨ie,de,ze,hie,hde,hze,hqe,hte'⟩:=bY hte;have slice:(dP P t i d).isSlice=true->∃ e,d=.slice e/\P.info? e=some ie:=λhs=>by
  cases d <;>simp[dP]at hs;grind [dP]
 unfold El at E;split at E
 ·rename_i k l;unfold ZE at E;split at E
  ·rename_i a b;cases O:(dP P t i d).isSlice with
   |false=>grind
   |true=>
    rw[O]at E;simp only[cond_true]at E;obtain⟨e,rfl,W⟩:=slice O;obtain⟨u,rfl,e3⟩:=h2 _ rfl;obtain rfl:=Y rfl;obtain rfl:=cT hm;obtain rfl:=cT e3;refine⟨_,_,.inr E.symm,λ⟨ha,O⟩ =>?_⟩;subst ha;subst O;have hcap:∃ a cap,v=.slice a l.length cap/\l.length<=cap/\Rel F own w (.rs k l) (.slice a l.length l.length):=by
     cases hr with
     |rs c q0 q0' q1 q2=>exact⟨_,_,rfl,q0,.rs c (ak2 _) q0' q1 q2⟩|rs0=>exact⟨_,_,rfl,alB _,.rs0⟩
    obtain⟨a,cap,rfl,hcl,V⟩:=hcap;have hbd:(Instr.sliceBounds true l.length cap none (some (.int .i64 l.length)) (some (.int .i64 l.length))).run P w=.ok (0,l.length,l.length) w:=by
     simp_all [Instr.sliceBounds,mX]
    refine⟨.slice a l.length l.length,?_,.rc V⟩;simp_all [Instr.sliceAt,Instr.slice,run_underlying,dQ,Addr.add]
  grind
 unfold ZD at E;split at E
 cases O:(dP P t i d).isSlice with
 |false=>grind
 |true=>
  rw[O]at E;simp only[cond_true]at E;obtain⟨e,rfl,W⟩:=slice O;obtain⟨u,rfl,e3⟩:=h2 _ rfl;obtain rfl:=Y rfl;obtain rfl:=cT hr;obtain rfl:=cT hm;obtain rfl:=cT e3;refine⟨True,_,.inl ⟨E.symm,trivial⟩,λ_=>⟨.slice none 0 0,?_,.v _⟩⟩;have hbd:(Instr.sliceBounds true 0 0 none (some (.int .i64 0)) (some (.int .i64 0))).run P w=.ok (0,0,0) w:=by
   rfl
  simp_all [Instr.sliceAt,Instr.slice,run_underlying,dQ]
 grind
theorem aaW(hp:Hp F own w h){nx:Nat}(hn:apB own h nx)(ht:jn P t=some ti)(hte:jn P ti.elem=some te)(hsl:ti.isSlice=true){sl sc:SV}{vl vc:Value}(hrl:Rel F own w sl vl)(hrc:Rel F own w sc vc)(W:mkS nx te sl sc=r)(hne:r≠ .bad):
  CN F own w h ((Instr.makeSlice t vl vc).run P w) r:=by
 obtain⟨i,d,z,hi,hd,hz,hq,rfl⟩:=bY ht;obtain⟨ie,de,ze,hie,hde,hze,hqe,O⟩:=bY hte;cases d <;>simp[dP]at hsl;rename_i e;simp only[dP]at hie;unfold mkS at W;split at W
 rename_i n c;have el:=cT hrl;have ec:=cT hrc;subst el;subst ec;unfold mkT at W;split at W
 rename_i k E;subst W;have V:yF P e ie=some k:=by rw[O]at E;exact E
 obtain⟨t1,t2,t3,t4⟩:=z9 (F:=F) (own:=own) (w:=w) V;have heb:te.bytes=ie.bytes:=by rw[O];rfl
 refine⟨_,_,_,_,rfl,λ⟨hc1,X,hc3⟩ =>?_⟩;subst hc1;rw[heb]at hc3;have hnb:n<=n*(ie.bytes:Int):=by
  have:n*1<=n*(ie.bytes:Int):=amJ (by omega) X;omega
 have hnm:n<=(aN:Int):=by grind [d8,aN]
 refine⟨hnm,?_⟩;have hrun:=run_make (P:=P) w t e ie ze hd hie hze .i64 .i64 n n X (alJ _) (by grind [d8]) (by grind [aN]);have Y:=(t4 ze hze).1;have hzs:ze.cells.size=aa k:=by rw[Y.1,bK]
 refine⟨_,_,_,hrun,Rel.os (F:=F) (id:=nx) (hd:=⟨none,.slice (some ⟨w.heap.size,0,none⟩) n.toNat n.toNat,[],[w.heap.size]⟩) (Own.aoY _ _ _) rfl,uu hp hn (w1:=w) ⟨rfl,rfl,rfl,rfl⟩ _ _ _ rfl λee g=>.inr ⟨w.heap.size,0,n.toNat,_,e,by simp,rfl,kC _ _,?_,by simp,by simp;omega,λq x hx j s hj=>?_⟩⟩;simp_all [size_madeCells];have hxd:x=eG k:=by
  grind
 subst hxd;have hjl:j<aa k:=by grind [bK]
 have hql:q<n.toNat:=by grind
 have hlt:q*aa k+j<n.toNat*aa k:=by
  have:(q+1)*aa k<=n.toNat*aa k:=alg _ hql;grind
 refine⟨ze.cells.getD j undef,?_,(Y.2 j s hj).mono g⟩;simp_all [anG,madeCells];grind
 grind
theorem XX(hp:Hp F own w h){ty:TypeId}(ht:jn P t=some ti){l:List SV}{vs:Array Value}(hl:aoX F own w l vs)(E:t_ ti h l=r)(Y:r≠ .bad):
  ∃ (n:Nat),((∃ c,r=.asm c (.i n)/\c)\/r=.val (.i n))/\(Builtin.len_ #[t] ty vs).run P w=.ok (.int .i64 n) w:=by
 obtain⟨i,d,z,hi,hd,hz,hq,rfl⟩:=bY ht;have hsl:(dP P t i d).isSlice=true->∀ (a0:Option Addr) (n cap:Nat),(Builtin.len_ #[t] ty #[.slice a0 n cap]).run P w=.ok (.int .i64 n) w:=by
  intro hs a0 n cap;cases d <;>simp[dP]at hs;simp[Builtin.len_,run_underlying hd,goInt]
 have one:∀ s,l=[s]->∃ v,vs= #[v]/\Rel F own w s v:=by
  rintro s rfl;obtain⟨⟨a⟩⟩:=vs;exact absurd hl.1 (by simp);rename_i x xs;cases xs with
  |nil=>exact⟨x,rfl,by simpa using hl.2 0 _ rfl⟩
  |cons _ _=>exact absurd hl.1 (by simp)
 unfold t_ at E;split at E
 rename_i k m;obtain⟨v,rfl,V⟩:=one _ rfl;cases O:(dP P t i d).isSlice with
 |false=>grind
 |true=>
  rw[O]at E;simp only[cond_true]at E;subst E;cases V <;>grind
 obtain⟨v,rfl,V⟩:=one _ rfl;cases O:(dP P t i d).isSlice with
 |false=>grind
 |true=>
  rw[O]at E;simp only[cond_true]at E;grind [cT]
 obtain⟨v,rfl,V⟩:=one _ rfl;cases O:(dP P t i d).isSlice with
 |false=>grind
 |true=>
  rw[O]at E;simp only[cond_true]at E;subst E;cases V <;>grind
 obtain⟨v,rfl,V⟩:=one _ rfl;cases O:(dP P t i d).isSlice with
 |false=>grind
 |true=>
  rw[O]at E;simp only[cond_true]at E;subst E;cases V with
  |rc V=>
   refine⟨_,.inl ⟨_,rfl,?_⟩,hsl O _ _ _⟩;generalize hvv:Value.slice _ _ _=vv at V;cases V <;>grind
 rename_i id;obtain⟨v,rfl,V⟩:=one _ rfl;cases O:(dP P t i d).isSlice with
 |false=>
  rw[O]at E;simp only[cond_false]at E;obtain⟨hdd,h1,rfl,_⟩:=iz V;cases W:ap h id with
  |mp kk vk m apj=>
    rw[W]at E;simp only[aaH]at E;cases d with
    |map a b0=>
     cases hk:(dP P t i (.map a b0)).mkt.isSome&&noE apj with
     |false=>grind
     |true=>
      rw[hk]at E;simp only[cond_true]at E;subst E;rw[akZ]at hk;obtain⟨hd',X,b,es,clk,m1,m2,m3,m4,_⟩:=hp.at W rfl;rw[h1]at X;cases X;rw[km hk.2]at m4;have hg:(getObj b).run P w=.ok (.map es clk) w:=by simp[getObj,Sem.run,m3]
      have hn:es.size=m.length:=m4.1;refine⟨m.length,.inr rfl,?_⟩;simp_all [Builtin.len_,run_underlying,goInt]
    |_=>exact absurd E.symm Y
  |_=>rw[W]at E;exact absurd E.symm Y
 |true=>
  rw[O]at E;simp only[cond_true]at E;obtain⟨hdd,h1,rfl,_⟩:=iz V;cases W:ap h id with
  |row k m=>
   rw[W]at E;simp only[XF]at E;subst E;obtain⟨hd',X,e1⟩:=hp.at W rfl;rw[h1]at X;cases X;rcases e1 with⟨a0,m1,rfl,m3⟩ | ⟨b,o,cap,cs,ty,m1,m2,m3,m4,m5,m6,m7⟩ <;>grind
  |aoV k m=>
   rw[W]at E;simp only[XF]at E;subst E;obtain⟨hd',X,e1⟩:=hp.at W rfl;rw[h1]at X;cases X;rcases e1 with⟨m1,rfl,m3⟩ | ⟨b,o,cap,cs,ty,bs,m1,m2,m3,m4,m5,m6,m7,m8,m9⟩ <;>grind
  |_=>rw[W]at E;exact absurd E.symm Y
 rename_i id q;obtain⟨v,rfl,V⟩:=one _ rfl;cases O:(dP P t i d).isSlice with
 |false=>grind
 |true=>
  rw[O]at E;simp only[cond_true]at E;cases W:ap h id with
  |aoV k m=>
   rw[W]at E;simp only[aaG]at E;subst E;obtain⟨hd',X,e1⟩:=hp.at W rfl;cases V with
   |gr g1 g2 g3=>
    rw[g1]at X;cases X;rcases e1 with⟨_,_,m1,_⟩ | ⟨b,o,cap,cs,ty,bs,m1,m2,m3,m4,m5,m6,m7,m8,m9⟩;grind
    obtain⟨b1,k1,k2,k3,k4⟩:=m9.get g2;rcases k3 with⟨a0,n1,n2,_⟩ | ⟨b2,o2,cap2,cs2,ty2,n1,n2,n3,n4,n5,n6,n7⟩ <;>grind
  |_=>rw[W]at E;exact absurd E.symm Y
 rename_i s m;obtain⟨v,rfl,V⟩:=one _ rfl;cases O:(dP P t i d).isSlice&&Nat.ble 1 s with
 |false=>grind
 |true=>
  rw[O]at E;simp only[cond_true]at E;subst E;simp only[akZ]at O;have hs1:=nbl O.2;cases V with
  |ls c qz q0 q1 q2=>
   rw[qF,<-qz,Nat.mul_div_cancel _ hs1];exact⟨_,.inr rfl,hsl O.1 _ _ _⟩
 grind
end
section
variable {κ υ:Type}[DecidableEq κ]
def ol:List (κ×υ)->κ->Option Nat
 | [],_=>none|(a,_)::r,x=>if x=a then some 0 else(ol r x).map (· +1)
theorem uA {x:κ}:∀ {l:List (κ×υ)},ol l x=none->iy l x=none/\(∀ y,tx l x y=l++[(x,y)])/\Oi l x=l.length
 | [],_=>⟨rfl,λ_=>rfl,rfl⟩
 |(a,b)::r,h=>by
  simp only[ol]at h;split at h
  cases h;rename_i E;have h':ol r x=none:=by simp_all
  obtain⟨h1,h2,O⟩:=uA h';grind [iy,tx,Oi]
theorem r9 {x:κ}:∀ {l:List (κ×υ)} {i:Nat},ol l x=some i->∃ y,l[i]? =some (x,y)/\iy l x=some y/\(∀ z,tx l x z=l.set i (x,z))/\Oi l x=i
 | [],i,h=>by simp[ol]at h
 |(a,b)::r,i,h=>by
  simp only[ol]at h;split at h
  rename_i V;simp at h;subst h;simp_all [iy,tx,Oi];rename_i O;cases E:ol r x with
  |none=>grind
  |some j=>
   rw[E]at h;simp only[amn,ak3]at h;subst h;obtain⟨y,h1,h2,X,W⟩:=r9 E;grind [iy,tx,Oi]
end
section
variable {P:Program}{F:Nat->Prop}{own:Own}{w:World}
theorem JX (a b:ByteArray):(a==b)=true↔a=b:=by
 obtain⟨x⟩:=a;obtain⟨y⟩:=b;show(x==y)=true↔_;simp
theorem vz (k:Tag)(x:k.T):ul (et k) (cellsOf k x)=true:=by
 cases k <;>first|rfl|(cases x <;>rfl)
theorem EH:∀ {a b:List Nat},Ec a b=true->a=b
 | [],[],_=>rfl
 |x::a,y::b,h=>by simp only[Ec,akZ]at h;rw[ak0 h.1,EH h.2]
 | [],_::_,h=>by simp[Ec]at h
 |_::_,[],h=>by simp[Ec]at h
theorem Ma:∀ {ks:List Kd} {l m:List SV},ul ks l=true->ul ks m=true->(∀ c∈ks.map jm,c≠0)->∃ b,eqL (ks.map jm) l m=some b/\(b=true↔l=m)
 | [],l,m,h1,h2,_=>by
  have e1:=uz h1;have e2:=uz h2;subst e1;subst e2;exact⟨true,rfl,by simp⟩
 |k::ks,l,m,h1,h2,hc=>by
  obtain⟨x,r,rfl,W,f2⟩:=pw h1;obtain⟨y,s,rfl,X,g2⟩:=pw h2;obtain⟨b,e1,e2⟩:=Ma f2 g2 (λc Y=>hc c (by simp[Y]));have V:=hc (jm k) (by simp);have:∃ O,eqV (jm k) x y=some O/\(O=true↔x=y):=by
   cases k with
   |s=>
    have E:=Is W;have hy:=Is X;rw[<-E,<-hy];refine⟨toS x==toS y,by rfl,by simp[JX]⟩
   |b=>
    have E:=It W;have hy:=It X;rw[<-E,<-hy];refine⟨toB x==toB y,by rfl,by simp⟩
   |n k=>
    have E:=Iu W;have hy:=Iu X;rw[<-E,<-hy];refine⟨toI x==toI y,by simp[eqV,jm],by simp⟩
   |r k=>simp[jm]at V|m a b=>simp[jm]at V|f=>simp[jm]at V
  obtain⟨O,e3,e4⟩:=this;simp_all [eqL,y4]
variable {t:TypeId}{k:Tag}
theorem Br(h:LN P t=some k):∃ i d,P.info? t=some i/\yF P t i=some k/\P.underlying t=some d/\kl P t=oo k/\
  ((kl P t=true/\(et k).map jm=nP P t d/\nP P t d≠[])\/(kl P t=false/\(et k).map jm=[cC (some d)]/\cC (some d)≠0)):=by
 unfold LN at h;cases V:LM P t with
 |none=>grind
 |some k'=>
  rw[V]at h;simp only at h;cases E:Oh P t k' with
  |false=>grind
  |true=>
   rw[E]at h;simp only[cond_true,ak3]at h;subst h;obtain⟨i,hi,O⟩:=Bq V;unfold Oh at E;split at E
   rename_i d hd;refine⟨i,d,hi,O,hd,(z9 (F:=λ_=>False) (own:=dF) (w:=default) O).2.2.1,?_⟩;cases W:kl P t with
   |true=>
    rw[W]at E;simp only[cond_true,akZ]at E;have e:=EH E.1;refine .inl ⟨rfl,e,λhn=>?_⟩;simp_all
   |false=>
    rw[W]at E;simp only[cond_false,akZ]at E;exact .inr ⟨rfl,EH E.1,by have:=nbl E.2;omega⟩
   cases E
variable {d:TypeDesc}
theorem EI(c:Nat)(h:c∈nP P t d):c≠0:=by
 unfold nP at h;split at h
 rename_i fs;cases E:!P.stoodInHeld t&& !P.eqGuardType P.depth t&&eqFields P 0 fs.toList with
 |false=>grind
 |true=>
  rw[E]at h;simp only[cond_true]at h;simp only[akZ]at E;have:∀ (l:List Field) (n:Nat),eqFields P n l=true->c∈l.map (λf=>cC (P.underlying f.type))->c≠0:=by
   intro l;induction l with
   |nil=>grind
   |cons f l V=>
    intro n O hm;simp only[eqFields,akZ]at O;simp only[alt,ala]at hm;rcases hm with rfl|hm;have:=nbl O.1.2;omega;grind
  grind
 rename_i n e;cases E:!P.eqGuardType P.depth t&&Nat.blt 0 (cC (P.underlying e))&&Nat.beq (nX P e) 1 with
 |false=>grind
 |true=>
  rw[E]at h;simp only[cond_true]at h;simp only[akZ]at E;have:=List.eq_of_mem_replicate h;have h2:=nbl E.1.2;omega
 cases h
theorem EJ {d:Nat}{e:TypeId}(hc:cC (P.underlying e)≠0):∀ (n m:Nat) (O E:List SV) (xs V:Array Value) (b:Bool),eqL (List.replicate n (cC (P.underlying e))) O E=some b->m+O.length<=xs.size->m+E.length<=V.size->
  (∀ (j:Nat) (s:SV),O[j]? =some s->Rel F own w s (xs.getD (m+j) undef))->(∀ (j:Nat) (s:SV),E[j]? =some s->Rel F own w s (V.getD (m+j) undef))->
  (Op.eqItems (d+1) e 1 xs V (List.range' m n)).run P w=.ok b w
 |0,m,O,E,xs,V,b,h,_,_,_,_=>by
  cases O <;>cases E <;>simp[eqL]at h;simp_all [Op.eqItems]
 |n+1,m,O,E,xs,V,b,h,h1,h2,h3,h4=>by
  cases O with
  |nil=>simp[eqL,anl]at h
  |cons x O=>
   cases E with
   |nil=>simp[eqL,anl]at h
   |cons y E=>
    simp only[anl,eqL]at h;cases X:eqV (cC (P.underlying e)) x y with
    |none=>grind [y4]
    |some b1=>
     cases Y:eqL (List.replicate n (cC (P.underlying e))) O E with
     |none=>grind [y4]
     |some b2=>
      rw[X,Y]at h;simp only[y4,ak3]at h;subst h;simp only[ak5]at h1 h2;have e1:=vt (P:=P) (w:=w) hc (xs:=xs) (n:=m) (by omega);have e2:=vt (P:=P) (w:=w) hc (xs:=V) (n:=m) (by omega);have W:=OM (P:=P) (h3 0 x rfl) (h4 0 y rfl) X d;simp only[al_]at W;rw[amv];simp only[Op.eqItems,amT,alv,e1,e2,alh,W];cases b1 with
      |false=>simp
      |true=>
       have ih:=EJ (d:=d) hc n (m+1) O E xs V b2 Y (by omega) (by omega) (λj s hj=>by have:=h3 (j+1) s (by grind);grind) (λj s hj=>by have:=h4 (j+1) s (by grind);grind);grind
theorem Mb(hd:P.underlying t=some d){W V:List SV}{xs E:Array Value}(hx:aoX F own w W xs)(hy:aoX F own w V E){b:Bool}
  (hc:nP P t d≠[]) (h:eqL (nP P t d) W V=some b):(Op.equal t (.agg xs) (.agg E)).run P w=.ok b w/\P.eqGuardType P.depth t=false:=by
 cases d with
 |struct fs=>exact L9 hd hx hy hc h
 |array n e=>
  simp only[nP]at hc h;cases O:!P.eqGuardType P.depth t&&Nat.blt 0 (cC (P.underlying e))&&Nat.beq (nX P e) 1 with
  |false=>grind
  |true=>
   rw[O]at h;simp only[cond_true]at h;simp only[akZ,alm]at O;obtain⟨⟨q1,q2⟩,q3⟩:=O;refine⟨?_,q1⟩;have h1:=ak0 q3;have hi:∃ i,P.info? e=some i/\i.size=1:=by
    grind [nX]
   obtain⟨i,hi,his⟩:=hi;unfold Op.equal Op.maxDepth;rw[run_equalIn_array (w:=w) 9999 xs E hd hi];have Y:P.cellsOf e=1:=by grind [Program.cellsOf]
   rw[Y,List.range_eq_range'];exact EJ (d:=9998) (by have:=nbl q2;omega) n 0 W V xs E b h (by rw[hx.1];omega) (by rw[hy.1];omega) (λj s X=>by simpa using hx.2 j s X) (λj s X=>by simpa using hy.2 j s X)
 |_=>exact absurd rfl hc
theorem xO{x:k.T}(h:oo k=true):svT k x=.agg (cellsOf k x):=by grind [svT]
theorem tP {l:List SV}{v:Value}(h:Rel F own w (.agg l) v):∃ vs,v=.agg vs/\aoX F own w l vs:=by
 cases h with|agg E h1=>exact⟨_,rfl,E,h1⟩
theorem Aa{x:k.T}(h:oo k=false){s:SV}(E:cellsOf k x=[s]):svT k x=s:=by unfold svT;rw[h,E];rfl
theorem OS{k:Kd}{V O:SV}(hc:jm k=cC (some d))(h0:jm k≠0)(fx:fit k V=true)(fy:fit k O=true){E W:Value}(X:Rel F own w V E)(hy:Rel F own w O W):
  ∃ b,Instr.sameNow d E W=some b/\(b=true↔V=O)/\(b=true->E=W):=by
 cases k with
 |s=>
  have Y:=Is fx;have e2:=Is fy;rw[<-Y]at X |-;rw[<-e2]at hy |-;have:=cT X;have:=cT hy;subst E;subst W;cases d <;>simp[jm,cC]at hc;exact⟨toS V==toS O,rfl,by simp[JX],by simp[JX]⟩
 |b=>
  have Y:=It fx;have e2:=It fy;rw[<-Y]at X |-;rw[<-e2]at hy |-;have:=cT X;have:=cT hy;subst E;subst W;cases d <;>simp[jm,cC]at hc;exact⟨toB V==toB O,rfl,by simp,by simp⟩
 |n k=>
  have Y:=Iu fx;have e2:=Iu fy;rw[<-Y]at X |-;rw[<-e2]at hy |-;have:=cT X;have:=cT hy;subst E;subst W;cases d <;>simp[jm,cC]at hc;exact⟨toI V==toI O,by simp[Instr.sameNow],by simp,by simp⟩
 |r k=>simp[jm]at h0|m a b=>simp[jm]at h0|f=>simp[jm]at h0
theorem yK {kk V:Tag}{X:TypeId}{W:Value}{x:kk.T}:∀ (es:List MapEntry) (l:List (kk.T×V.T)) (n:Nat),es.length=l.length->(∀ (i:Nat) (p:kk.T×V.T),l[i]? =some p->∃ e:MapEntry,es[i]? =some e/\∃ b,(Op.equal X W e.key).run P w=.ok b w/\(b=true↔x=p.1))->
  (Instr.findAsking X W es n).run P w=.ok ((ol l x).bind λi=>(es[i]?).map λe=>(n+i,e.val)) w
 | [],[],n,_,_=>by rfl
 | [],_::_,_,h,_=>by simp at h
 |_::_,[],_,h,_=>by simp at h
 |e::es,(a,c)::l,n,hl,h=>by
  obtain⟨e',O,b,e2,e3⟩:=h 0 _ rfl;simp at O;subst O;have ih:=yK es l (n+1) (by grind) (λi p hp=>by
   obtain⟨e',q1,Y⟩:=h (i+1) p (by grind);exact⟨e',by grind,Y⟩)
  simp only[Instr.findAsking,alv,e2,alh];cases b with
  |true=>
   simp_all [ol]
  |false=>
   have E:¬x=a:=λhx=>by grind
   simp only[ak7,if_false,ol,E];rw[ih];cases ol l x <;>grind
theorem EK {kk V:Tag}{d:TypeDesc}{W:Value}{x:kk.T}:∀ (es:List MapEntry) (l:List (kk.T×V.T)) (n:Nat),es.length=l.length->(∀ (i:Nat) (p:kk.T×V.T),l[i]? =some p->∃ e:MapEntry,es[i]? =some e/\∃ b,Instr.sameNow d W e.key=some b/\(b=true↔x=p.1))->
  Instr.findNow d W es n=some ((ol l x).bind λi=>(es[i]?).map λe=>(n+i,e.val))
 | [],[],n,_,_=>by rfl
 | [],_::_,_,h,_=>by simp at h
 |_::_,[],_,h,_=>by simp at h
 |e::es,(a,c)::l,n,hl,h=>by
  obtain⟨e',O,b,e2,e3⟩:=h 0 _ rfl;simp at O;subst O;have Y:=EK es l (n+1) (by grind) (λi p hp=>by
   obtain⟨e',q1,X⟩:=h (i+1) p (by grind);exact⟨e',by grind,X⟩)
  simp only[Instr.findNow,e2];cases b with
  |true=>
   grind [ol]
  |false=>
   have E:¬x=a:=λhx=>by grind
   simp only[ol,E,if_false];rw[Y];cases ol l x <;>grind
theorem Bt{c:Nat}(h:(et k).map jm=[c])(x:k.T):∃ κ s,et k=[κ]/\jm κ=c/\cellsOf k x=[s]/\fit κ s=true:=by
 have E:=vz k x;cases V:et k with
 |nil=>grind
 |cons κ r=>
  rw[V]at h E;simp only[alt,amB,List.map_eq_nil_iff]at h;obtain⟨h1,rfl⟩:=h;obtain⟨s,r,X,W,O⟩:=pw E;have:=uz O;grind
variable {vx:Value}
theorem vA{kk vk:Tag}{kt:TypeId}(hk:LN P kt=some kk){x:kk.T}(hx:Rel F own w (svT kk x) vx){l:List (kk.T×vk.T)}{es:Array MapEntry}(hl:es.size=l.length)(X:∀ (i:Nat) (p:kk.T×vk.T),l[i]? =some p->∃ e,es[i]? =some e/\Rel F own w (svT kk p.1) e.key):
  (Instr.findKey kt vx es.toList).run P w=.ok ((ol l x).bind λi=>(es[i]?).map λe=>(i,e.val)) w:=by
 obtain⟨i,d,hi,ap5,hd,V,O⟩:=Br hk;unfold Instr.findKey;simp only[alv,run_underlying hd,alh];rcases O with⟨h1,h2,h3⟩ | ⟨h1,h2,h3⟩;rw[h1]at V;rw[xO V.symm]at hx;obtain⟨xs,rfl,hxs⟩:=tP hx;have E:∀ (i:Nat) (p:kk.T×vk.T),l[i]? =some p->∃ e:MapEntry,es.toList[i]? =some e/\∃ b,(Op.equal kt (.agg xs) e.key).run P w=.ok b w/\(b=true↔x=p.1):=λi p hp=>by
  obtain⟨e,e1,W⟩:=X i p hp;rw[xO V.symm]at W;obtain⟨ys,hy1,hy2⟩:=tP W;refine⟨e,by grind,?_⟩;obtain⟨b,Y,q2⟩:=Ma (vz kk x) (vz kk p.1) (λc hc=>by rw[h2]at hc;exact EI c hc);rw[h2]at Y;rw[hy1];exact⟨b,(Mb hd hxs hy2 h3 Y).1,by rw[q2];exact⟨λh=>CJ h,λh=>by rw[h]⟩⟩
 have hfa:=yK (P:=P) (w:=w) es.toList l 0 (by omega) E;simp only[ak8,amL]at hfa;have hnow:Instr.findNow d (.agg xs) es.toList 0=none\/es.toList=[]:=by
  cases hel:es.toList with
  |nil=>grind
  |cons e r=>
   left;simp only[Instr.findNow];have:Instr.sameNow d (.agg xs) e.key=none:=by cases d <;>rfl
   rw[this]
 grind [Instr.findNow,Instr.findAsking]
 rw[h1]at V;obtain⟨κ,s,k1,k2,k3,k4⟩:=Bt h2 x;rw[Aa V.symm k3]at hx;have E:∀ (i:Nat) (p:kk.T×vk.T),l[i]? =some p->∃ e:MapEntry,es.toList[i]? =some e/\∃ b,Instr.sameNow d vx e.key=some b/\(b=true↔x=p.1):=λi p hp=>by
  obtain⟨e,e1,W⟩:=X i p hp;obtain⟨κ',s',m1,m2,m3,m4⟩:=Bt h2 p.1;rw[k1]at m1;cases m1;rw[Aa V.symm m3]at W;obtain⟨b,Y,q2,_⟩:=OS k2 (by omega) k4 m4 hx W;exact⟨e,by grind,b,Y,by rw[q2];exact⟨λh=>CJ (by grind),λh=>by grind⟩⟩
 have hfn:=EK (d:=d) es.toList l 0 (by omega) E;simp_all
theorem wW {em:Bool}{xs:Array Value}:∀ (fs:List Field) (n:Nat),eqFields P n fs=true->n+fs.length<=xs.size->
  (forIn fs PUnit.unit (λf (_:PUnit) =>do
   if f.name≠ "_" then Instr.checkKey em 9999 f.type (<-part f.type xs f.offset)
   pure (ForInStep.yield PUnit.unit)):Sem PUnit).run P w=.ok PUnit.unit w
 | [],n,_,_=>by simp
 |f::fs,n,O,E=>by
  simp only[eqFields,akZ]at O;obtain⟨⟨⟨q1,W⟩,Y⟩,X⟩:=O;have hn:f.name≠ "_":=by grind
  have ho:f.offset=n:=ak0 W;have hc:cC (P.underlying f.type)≠0:=by have:=nbl Y;omega
  simp only[ak5]at E;have e1:=vt (P:=P) (w:=w) hc (xs:=xs) (n:=n) (by omega);have e2:(Instr.checkKey em 9999 f.type (xs.getD n undef)).run P w=.ok () w:=by
   unfold Instr.checkKey;cases V:P.underlying f.type with
   |none=>grind [cC]
   |some d=>
    rw[V]at hc;simp only[alv,run_underlying V,alh];cases d <;>simp[cC]at hc <;>simp
  have ih:=wW (em:=em) (xs:=xs) fs (n+1) X (by omega);simp_all
theorem yL {em:Bool}{e:TypeId}(hc:cC (P.underlying e)≠0)(O:(sizeOf e).run P w=.ok 1 w){xs:Array Value}:∀ (n m:Nat),m+n<=xs.size->
  (forIn (List.range' m n) PUnit.unit (λi (_:PUnit) =>do
   Instr.checkKey em 9999 e (<-part e xs (i*(<-sizeOf e)))
   pure (ForInStep.yield PUnit.unit)):Sem PUnit).run P w=.ok PUnit.unit w
 |0,m,_=>by simp
 |n+1,m,hle=>by
  have V:=vt (P:=P) (w:=w) hc (xs:=xs) (n:=m) (by omega);have W:(Instr.checkKey em 9999 e (xs.getD m undef)).run P w=.ok () w:=by
   unfold Instr.checkKey;cases E:P.underlying e with
   |none=>grind [cC]
   |some d=>
    rw[E]at hc;simp only[alv,run_underlying E,alh];cases d <;>simp[cC]at hc <;>simp
  have X:=yL (em:=em) hc O (xs:=xs) n (m+1) (by omega);simp_all [amv]
theorem tQ{kk:Tag}{W:TypeId}(hk:LN P W=some kk){x:kk.T}(hx:Rel F own w (svT kk x) vx)(em:Bool):(Instr.checkKey em 10000 W vx).run P w=.ok () w:=by
 obtain⟨i,d,hi,ap5,hd,ha,V⟩:=Br hk;rcases V with⟨h1,h2,X⟩ | ⟨h1,h2,X⟩;rw[h1]at ha;rw[xO ha.symm]at hx;obtain⟨xs,rfl,Y⟩:=tP hx;have E:(nP P W d).length=xs.size:=by
  rw[Y.1,<-h2,alY,bK];have:(et kk).length=(cellsOf kk x).length:=by cases kk <;>rfl
  rw[this,bK]
 unfold Instr.checkKey;simp only[alv,run_underlying hd,alh];cases d with
 |struct fs=>
  simp only[nP]at X E;cases O:!P.stoodInHeld W&& !P.eqGuardType P.depth W&&eqFields P 0 fs.toList with
  |false=>grind
  |true=>
   rw[O]at E;simp only[akZ]at O;have:=wW (P:=P) (w:=w) (em:=em) (xs:=xs) fs.toList 0 O.2 (by grind);simp_all
 |array n e=>
  simp only[nP]at X E;cases O:!P.eqGuardType P.depth W&&Nat.blt 0 (cC (P.underlying e))&&Nat.beq (nX P e) 1 with
  |false=>grind
  |true=>
   rw[O]at E;simp only[akZ]at O;have hs1:=ak0 O.2;have hs:(sizeOf e).run P w=.ok 1 w:=by
    grind [nX,dQ]
   have:=yL (P:=P) (w:=w) (em:=em) (xs:=xs) (e:=e) (by have:=nbl O.1.2;omega) hs n 0 (by grind);simp_all
 |_=>exact absurd rfl X
 unfold Instr.checkKey;simp only[alv,run_underlying hd,alh];cases d <;>simp[cC]at X <;>simp
end
def Ab (w:World)(b:Nat)(o:Obj):World:= { w with heap:=w.heap.setIfInBounds b o}
def OT {w:World}{b k:Nat}{o:Obj}(h:k≠b):(Ab w b o).heap[k]? =w.heap[k]?:=by
 grind [Ab]
section
variable {P:Program}{F:Nat->Prop}{own:Own}{w:World}
theorem OU {z:Value}(h:Ea z=true):z=.agg z.cells:=by
 cases z <;>first|rfl|simp[Ea]at h
variable {t:TypeId}{k:Tag}
theorem Mc{i:TypeInfo}(h:yF P t i=some k){z:Value}(W:i.zero=some z):Rel F own w (svT k (eG k)) z:=by
 obtain⟨t1,t2,t3,Y⟩:=z9 (F:=F) (own:=own) (w:=w) h;obtain⟨E,X⟩:=Y z W;cases O:oo k with
 |true=>
  rw[xO O,OU (X.trans O)];exact .agg E.1 E.2
 |false=>
  have hc:z.cells= #[z]:=by cases z <;>first|rfl|grind [Ea]
  rw[hc]at E;have hl:(cellsOf k (eG k)).length=1:=by rw[<-E.1];rfl
  obtain⟨s,V⟩:∃ s,cellsOf k (eG k)=[s]:=by
   cases hcc:cellsOf k (eG k) <;>grind
  rw[Aa O V];have:=E.2 0 s (by rw[V];rfl);simp_all
theorem Ui {s:SV}{l:List SV}(h:Bg s=some l):l=[s]:=by
 unfold Bg at h;split at h
 cases h;cases h
 ·rename_i h1 h2;cases s <;>first|(simp[ph]at h;exact h.symm) |(simp[ph]at h;done) |(exact(h1 _ rfl).elim) |skip
  rename_i x;cases x <;>first|(simp[ph]at h;exact h.symm) |(simp[ph]at h;done) |grind
variable {v:Value}
theorem rN{s:SV}(hr:Rel F own w s v){x:k.T}(h:unT k s=some x):Rel F own w (svT k x) v:=by
 unfold unT at h;cases E:oo k with
 |true=>
  rw[E]at h;simp only[cond_true]at h;rw[xO E];cases hr with
  |agg X h1=>
   simp only[zP,CD]at h;have:=EE h ⟨X,h1⟩;exact .agg this.1 this.2
  |v y=>
   cases v with
   |agg cs=>
    simp only[zP,CD]at h;have:=EE h (vs:=cs) (xM (F:=F) (own:=own) (w:=w) (.agg cs));exact .agg this.1 this.2
   |_=>simp[zP,CD]at h
  |_=>simp[zP,CD]at h
 |false=>
  rw[E]at h;simp only[cond_false]at h;cases O:Bg s with
  |none=>rw[O]at h;cases h
  |some l=>
   rw[O]at h;have:=Ui O;subst this;simp only[CD]at h;have hc:=mz h;have V:=OL h;have Y:(et k).length=1:=by
    have:(et k).length=aa k:=by cases k <;>rfl
    grind
   cases W:et k with
   |nil=>grind
   |cons κ r=>
    grind [Aa,ow,yh]
theorem nH {a:Tag}{o:Option Tag}(h:lw a o=true):o=some a:=by
 cases o with
 |none=>cases h|some b=>rw[uv (k:=a) (k':=b) h]
variable {ti:TI}{kk E:Tag}
theorem zc(V:jn P t=some ti)(W:ti.mkt=some kk)(X:ti.mvt=some E):∃ O e,P.underlying t=some (.map O e)/\LN P O=some kk/\LM P e=some E:=by
 obtain⟨i,d,z,hi,hd,hz,Y,rfl⟩:=bY V;cases d <;>simp[dP]at W X;grind
theorem Sl(l:List (kk.T×E.T))(p:Option (Nat×Option kk.T))(x:kk.T):(iy (eI kk E l p) x).getD (eG E)=(iy l x).getD (eG E):=by
 match p with
 |none=>rfl|some (_,none) =>rfl
 |some (_,some y) =>
  simp only[eI];split
  rfl
  ·rename_i hn;have:∀ (l:List (kk.T×E.T)),iy (l++[(y,eG E)]) x=match iy l x with|some v=>some v|none=>if x=y then some (eG E)else none:=by
    intro l;induction l with
    |nil=>simp[iy]
    |cons a l O=>obtain⟨a,b⟩:=a;simp only[alr,iy];grind
   rw[this];cases iy l x <;>grind
variable {kt:TypeId}{O:Tag}{vx:Value}{x:kk.T}{es:Array MapEntry}
theorem Ac{e:TypeId}(hd:P.underlying t=some (.map kt e))(hk:LN P kt=some kk)(hv:LM P e=some O){m:Value}(hx:Rel F own w (svT kk x) vx){L:List (kk.T×O.T)}
  (hm:(m=.map none/\es= #[])\/∃ b clock,m=.map (some b)/\w.heap[b]? =some (.map es clock)) (hl:es.size=L.length) (W:∀ (i:Nat) (p:kk.T×O.T),L[i]? =some p->∃ e,es[i]? =some e/\Rel F own w (svT kk p.1) e.key/\Rel F own w (svT O p.2) e.val) (ok:Bool):
  ∃ v,(Instr.lookup t m vx ok).run P w=.ok (if ok then .tuple #[v,.bool (iy L x).isSome]else v) w/\Rel F own w (svT O ((iy L x).getD (eG O))) v:=by
 obtain⟨i,hi,E⟩:=Bq hv;have X:∃ z,i.zero=some z:=by
  have:=Bp E;simp only[Eb,akZ]at this;grind
 obtain⟨z,X⟩:=X;have hck:=tQ hk hx es.isEmpty;have hfk:=vA hk hx hl (λi p hp=>by obtain⟨e,e1,e2,_⟩:=W i p hp;grind);have hzr:=Mc (F:=F) (own:=own) (w:=w) E X;have hzv:(zeroValue e).run P w=.ok z w:=by simp[zeroValue,typeInfo,hi,X]
 have V:∃ v,((∃ j,((ol L x).bind λi=>(es[i]?).map λe=>(i,e.val))=some (j,v)/\(iy L x).isSome=true)\/(((ol L x).bind λi=>(es[i]?).map λe=>(i,e.val))=none/\v=z/\(iy L x).isSome=false))/\Rel F own w (svT O ((iy L x).getD (eG O))) v:=by
  cases Y:ol L x with
  |none=>
   grind [uA]
  |some i=>
   obtain⟨y,h1,h2,_,_⟩:=r9 Y;obtain⟨e,e1,e2,e3⟩:=W i _ h1;grind
 obtain⟨v,h1,h2⟩:=V;refine⟨v,?_,h2⟩;rcases hm with⟨rfl,rfl⟩ | ⟨b,clock,rfl,hb⟩;simp_all [Instr.lookup,run_underlying];have hg:(getObj b).run P w=.ok (.map es clock) w:=by simp[getObj,Sem.run,hb]
 rcases h1 with⟨j,h1,h3⟩ | ⟨h1,rfl,h3⟩;simp_all [Instr.lookup,run_underlying];simp_all [Instr.lookup,run_underlying]
variable {r:OR}
theorem EL{l:List (kk.T×E.T)}{ok:Bool}{o:Option kk.T}(O:Im kk E l ok o=r)(V:r≠ .bad):∃ x,o=some x/\r=.val (bif ok then .tup [svT E (aq kk E l x),.b (wL kk E l x)]else svT E (aq kk E l x)):=by
 unfold Im at O;grind
theorem Ad{y:E.T}{b:Bool}(h:Rel F own w (svT E y) v)(ok:Bool):Rel F own w (bif ok then .tup [svT E y,.b b]else svT E y) (if ok then .tuple #[v,.bool b]else v):=by
 cases ok with
 |false=>exact h
 |true=>
  refine .tup rfl λj s O=>?_;cases j with
  |zero=>simp_all
  |succ j=>
   cases j with
   |zero=>simp at O;subst O;exact .v _|succ j=>simp at O
variable {h:List Ob}{sk:SV}
theorem Uj(W:Hp F own w h)(ht:jn P t=some ti){s:SV}(hr:Rel F own w s v)(V:Rel F own w sk vx){ok:Bool}(E:tI ti h ok sk s=r)(O:r≠ .bad):
  ∃ s',r=.val s'/\∃ u,(Instr.lookup t v vx ok).run P w=.ok u w/\Rel F own w s' u:=by
 unfold tI at E;split at E
 rename_i id;obtain⟨hdd,h1,rfl,h2⟩:=iz hr;cases ho:ap h id with
 |mp kk vk l X=>
  rw[ho]at E;simp only[Qy]at E;cases hc:lw kk ti.mkt&&lw vk ti.mvt&&(!ok||noE X)with
  |false=>grind
  |true=>
   rw[hc]at E;simp only[cond_true]at E;simp only[akZ]at hc;obtain⟨x,hx,rfl⟩:=EL E O;obtain⟨kt,e,q1,q2,q3⟩:=zc ht (nH hc.1.1) (nH hc.1.2);obtain⟨hd',e0,b,es,clk,m1,m2,m3,m4,_⟩:=W.at ho rfl;rw[h1]at e0;cases e0;obtain⟨u,k1,k2⟩:=Ac (P:=P) q1 q2 q3 (rN V hx) (m:=hdd.v) (.inr ⟨b,_,m1,m3⟩) m4.1 (λi p W=>by obtain⟨e,e1,e2,e3⟩:=m4.2 i p W;grind) ok;rw[Sl]at k2;refine⟨_,rfl,_,k1,?_⟩;have Y:ok=true->(iy (eI kk vk l X) x).isSome=wL kk vk l x:=λhok=>by
    have:=hc.2;rw[hok]at this;rw[km (by grind)];rfl
   have:=Ad (b:=wL kk vk l x) k2 ok;cases ok with
   |false=>exact this|true=>rw[Y rfl];exact this
 |_=>rw[ho]at E;exact absurd E.symm O
 rename_i kk vk l;cases hc:lw kk ti.mkt&&lw vk ti.mvt with
 |false=>grind
 |true=>
  rw[hc]at E;simp only[cond_true]at E;simp only[akZ]at hc;obtain⟨x,hx,rfl⟩:=EL E O;obtain⟨kt,e,q1,q2,q3⟩:=zc ht (nH hc.1) (nH hc.2);cases hr with
  |rm ck cv es clock h0 h1 h2 h3 h4 h5=>
   rename_i b;obtain⟨u,k1,k2⟩:=Ac (P:=P) q1 q2 q3 (rN V hx) (m:=.map (some b)) (.inr ⟨b,_,rfl,h1⟩) h2 (λi p W=>by obtain⟨n,e1⟩:=h3 i p W;grind) ok;exact⟨_,rfl,_,k1,Ad k2 ok⟩
  |rm0=>
   obtain⟨u,k1,k2⟩:=Ac (P:=P) q1 q2 q3 (rN V hx) (m:=.map none) (.inl ⟨rfl,rfl⟩) rfl (λi p W=>by simp at W) ok (L:=[]);exact⟨_,rfl,_,k1,Ad k2 ok⟩
 have:=cT hr;subst this;unfold TV at E;split at E
 rename_i kk vk hk hv;obtain⟨x,hx,rfl⟩:=EL E O;obtain⟨kt,e,q1,q2,q3⟩:=zc ht hk hv;obtain⟨u,k1,k2⟩:=Ac (P:=P) q1 q2 q3 (rN V hx) (m:=.map none) (.inl ⟨rfl,rfl⟩) rfl (λi p W=>by simp at W) ok (L:=[]);exact⟨_,rfl,_,k1,Ad k2 ok⟩;grind
 grind
theorem yM{κ:Kd}{s:SV}{u:Value}(E:jm κ≠0)(O:fit κ s=true)(W:Rel F own w s v)(V:Rel F own w s u)(n:Nat):u=v/\Instr.sameBits n v u=true:=by
 cases κ with
 |s=>have e:=Is O;grind [cT,Instr.sameBits,JX]|b=>have e:=It O;grind [cT,Instr.sameBits]|n k=>have e:=Iu O;grind [cT,Instr.sameBits]|r k=>simp[jm]at E|m a b=>simp[jm]at E|f=>simp[jm]at E
theorem Md:∀ {ks:List Kd} {l:List SV} {j:Nat} {s:SV},ul ks l=true->l[j]? =some s->∃ κ,κ∈ks/\fit κ s=true
 | [],l,j,s,h,E=>by grind [uz]
 |k::ks,l,j,s,h,E=>by
  obtain⟨x,r,rfl,V,O⟩:=pw h;cases j with
  |zero=>grind
  |succ j=>simp at E;obtain⟨κ,h1,h2⟩:=Md O E;grind
theorem QJ(hk:LN P kt=some kk){u:Value}(hv:Rel F own w (svT kk x) v)(hu:Rel F own w (svT kk x) u):(Instr.keyThatStays v u).run P w=.ok u w:=by
 obtain⟨i,d,hi,ap5,hd,X,V⟩:=Br hk;have:Instr.sameBits 10000 v u=true:=by
  rcases V with⟨h1,h2,h3⟩ | ⟨h1,h2,h3⟩;rw[h1]at X;rw[xO X.symm]at hv hu;obtain⟨xs,rfl,O⟩:=tP hv;obtain⟨ys,rfl,W⟩:=tP hu;have Y:xs.size=ys.size:=O.1.trans W.1.symm;have key:∀ (j:Nat),j<xs.size->ys.getD j undef=xs.getD j undef/\Instr.sameBits 9999 (xs.getD j undef) (ys.getD j undef)=true:=λj hj=>by
   have E:j< (cellsOf kk x).length:=by rw[<-O.1];exact hj
   obtain⟨κ,q1,q2⟩:=Md (vz kk x) (alb E);have hc:jm κ≠0:=by
    have:jm κ∈(et kk).map jm:=al3.2 ⟨κ,q1,rfl⟩;grind [EI]
   exact yM hc q2 (O.2 j _ (alb E)) (W.2 j _ (alb E)) 9999
  simp only[Instr.sameBits,akZ,beq_iff_eq,Y,true_and,alA];rintro⟨a,b⟩ hm;obtain⟨j,hj⟩:=alS hm;simp_all <;>grind;rw[h1]at X;obtain⟨κ,s,k1,k2,k3,k4⟩:=Bt h2 x;grind [Aa,yM]
 simp[Instr.keyThatStays,this]
variable {W Y:Value}
theorem apw.upd{ee:Own}{w':World}(g:ao_ F own w ee w'){V:Tag}{l:List (kk.T×V.T)}(h:apw F own w kk V l es){i:Nat}{y:V.T}(hx:Rel F own w (svT kk x) W)(hy:Rel F own w (svT V y) Y)(hi:i<l.length):
  apw F ee w' kk V (l.set i (x,y)) (es.modify i λe=>{ e with key:=W,val:=Y}):=by
 refine⟨by simp[h.1],λj p E=>?_⟩;rw[amQ]at E;by_cases O:i=j
 subst O;rw[if_pos rfl,if_pos hi]at E;simp only[ak3]at E;subst E;obtain⟨e,e1,X,_⟩:=h.2 i _ (alb hi);exact⟨{ e with key:=W,val:=Y},by grind,X,hx.mono g,hy.mono g⟩;rw[if_neg O]at E;obtain⟨e,e1,X,e3,e4⟩:=h.2 j p E;exact⟨e,by grind,X,e3.mono g,e4.mono g⟩
variable {l:List (kk.T×O.T)}
theorem apw.push{ee:Own}{w':World}(g:ao_ F own w ee w')(h:apw F own w kk O l es){y:O.T}{V:Value}(hx:Rel F own w (svT kk x) V)(hy:Rel F own w (svT O y) W)(c:Nat):
  apw F ee w' kk O (l++[(x,y)]) (es.push ⟨V,W,c⟩):=by
 refine⟨by simp[h.1],λj p E=>?_⟩;rw[al2]at E;split at E
 rename_i hlt;obtain⟨e,e1,Y,X,e4⟩:=h.2 j p E;exact⟨e,by grind,Y,X.mono g,e4.mono g⟩;rename_i hlt;have hj:j=l.length:=by
  grind
 subst hj;simp at E;subst E;exact⟨⟨V,W,c⟩,by rw[<-h.1];simp,trivial,hx.mono g,hy.mono g⟩
theorem apw.erase{ee:Own}{w':World}(g:ao_ F own w ee w')(h:apw F own w kk O l es)(i:Nat):
  apw F ee w' kk O (l.eraseIdx i) (es.eraseIdxIfInBounds i):=by
 have hz:es.toList.length=l.length:=by simpa using h.1
 refine⟨?_,λj p E=>?_⟩;grind [List.length_eraseIdx]
 rw[<-amL,Array.toList_eraseIdxIfInBounds,anR];rw[anR]at E;split at E
 rename_i hlt;obtain⟨e,Y,W,V,X⟩:=h.2 _ p E;exact⟨e,by grind,W,V.mono g,X.mono g⟩;rename_i hlt;obtain⟨e,Y,W,V,X⟩:=h.2 _ p E;exact⟨e,by grind,W,V.mono g,X.mono g⟩
theorem JY (es:Array MapEntry)(i:Nat)(f:MapEntry->MapEntry)(E:∀ e,(f e).born=e.born):kD (es.modify i f)=kD es:=by
 unfold kD;refine List.ext_getElem? λj=>?_;grind
variable {c:Nat}
theorem Stamped.modify{i:Nat}{f:MapEntry->MapEntry}(h:Stamped es c)(E:∀ e,(f e).born=e.born):Stamped (es.modify i f) c:=by
 grind [Stamped,JY]
theorem Stamped.push(h:Stamped es c)(E O:Value):Stamped (es.push ⟨E,O,c⟩) (c+1):=by
 grind [kD,Stamped]
theorem Stamped.erase(h:Stamped es c)(i:Nat):Stamped (es.eraseIdxIfInBounds i) c:=by
 have e:(kD (es.eraseIdxIfInBounds i)).Sublist (kD es):=by
  grind [kD,Array.toList_eraseIdxIfInBounds]
 exact⟨h.1.sublist e,λn hn=>h.2 n (e.subset hn)⟩
theorem Iw {κ υ:Type}[DecidableEq κ]{x:κ}:∀ {l:List (κ×υ)},ol l x=none->Bf l x=l
 | [],_=>rfl
 |(a,b)::r,h=>by
  simp only[ol]at h;split at h
  cases h;rename_i E;simp only[Bf,if_neg E];rw[Iw (by cases O:ol r x with
   |none=>rfl
   |some i=>rw[O]at h;cases h)]
theorem Ix {κ υ:Type}[DecidableEq κ]{x:κ}:∀ {l:List (κ×υ)} {i:Nat},ol l x=some i->Bf l x=l.eraseIdx i
 | [],i,h=>by rfl
 |(a,b)::r,i,h=>by
  simp only[ol]at h;split at h
  rename_i V;cases h;simp[Bf,V];rename_i O;cases E:ol r x with
  |none=>rw[E]at h;cases h
  |some j=>
   rw[E]at h;simp at h;subst h;simp[Bf,O,Ix E]
theorem uB(Y:Hp F own w h){id:Nat}{hd:Hd}(h1:own id=some hd){b:Nat}(X:hd.bs=[b])(hv:hd.v=.map (some b))(hh:w.heap[b]? =some (.map es c))(E:Array MapEntry)(V:Nat){l':List (kk.T×O.T)}{p':Option (Nat×Option kk.T)}
  (hm:∀ ee w',ao_ F own w ee w'->apw F ee w' kk O (eI kk O l' p') E) (hs:Stamped E V) (W:apT own kk O l' E V p'):Step F own w (cL h id (.mp kk O l' p')) own (Ab w b (.map E V)):=by
 refine pu Y h1 (b:=b) (by simp[X]) (by simp[Ab]) (λk hk=>OT hk) rfl rfl rfl _ λg=>⟨b,E,V,hv,X,?_,hm _ _ g,hs,W⟩;grind [Ab]
theorem QK(Y:Hp F own w h)(ht:jn P t=some ti){s sv:SV}{X:Value}(hr:Rel F own w s v)(hrk:Rel F own w sk W)(hrv:Rel F own w sv X)(E:Dd ti h sk sv s=r)(hne:r≠ .bad):
  ∃ ups,r=.eff True True ups .any/\∃ w',(Instr.mapUpdate t v W X).run P w=.ok () w'/\Step F own w (bf h ups) own w':=by
 unfold Dd at E;split at E
 rename_i id;obtain⟨hdd,h1,rfl,h2⟩:=iz hr;cases ho:ap h id with
 |mp kk vk l apj=>
  rw[ho]at E;simp only[aaL]at E;cases hc:lw kk ti.mkt&&lw vk ti.mvt&&noE apj with
  |false=>grind
  |true=>
   rw[hc]at E;simp only[cond_true]at E;simp only[akZ]at hc;unfold aaK at E;split at E
   rename_i x y hx hy;subst E;obtain⟨kt,e,q1,q2,q3⟩:=zc ht (nH hc.1.1) (nH hc.1.2);obtain⟨hd',e0,b,es,O,m1,m2,m3,m4,m5,_⟩:=Y.at ho rfl;rw[h1]at e0;cases e0;rw[km hc.2]at m4;have rx:=rN hrk hx;have ry:=rN hrv hy;have hg:(getObj b).run P w=.ok (.map es O) w:=by simp[getObj,Sem.run,m3]
   have hset:∀ o,(setObj b o).run P w=.ok () (Ab w b o):=λo=>by simp[setObj,Sem.run,m3,Ab]
   have hck:=tQ q2 rx false;have hfk:=vA q2 rx m4.1 (λi p Y=>by obtain⟨e,e1,e2,e3,_⟩:=m4.2 i p Y;grind);refine⟨_,rfl,?_⟩;simp only[bf];cases V:ol l x with
   |none=>
    obtain⟨_,n2,_⟩:=uA V;have:=uB Y h1 m2 m1 m3 (es.push ⟨W,X,O⟩) (O+1) (l':=cH kk vk l x y) (p':=none) (λee w' g=>by
     grind [apw.push,eI,cH]) (m5.push W X) trivial
    simp_all [Instr.mapUpdate,run_underlying]
   |some i=>
    obtain⟨y',n1,n2,n3,_⟩:=r9 V;obtain⟨e',k1,k2,k3,k4⟩:=m4.2 i _ n1;have:=uB Y h1 m2 m1 m3 (es.modify i λe=>{ e with key:=W,val:=X}) O (l':=cH kk vk l x y) (p':=none) (λee w' g=>by
     grind [apw.upd,eI,cH]) (m5.modify λ_=>rfl) trivial
    refine⟨_,?_,this⟩;rw[V]at hfk;have hst:=QJ q2 k3 rx;simp_all [Instr.mapUpdate,run_underlying]
   grind
 |_=>rw[ho]at E;exact absurd E.symm hne
 grind
theorem XY(hp:Hp F own w h)(ht:jn P t=some ti){l:List SV}{vs:Array Value}(hl:aoX F own w l vs)(E:y6 ti h l=r)(hne:r≠ .bad){tys:Array TypeId}(hty:tys[0]? =some t)(ty:TypeId):
  ∃ ups,r=.eff True True ups .any/\∃ u w',(Builtin.delete_ tys ty vs).run P w=.ok u w'/\Step F own w (bf h ups) own w':=by
 unfold y6 at E;split at E
 ·rename_i id sk;obtain⟨vs⟩:=vs;have hsz:=hl.1;match vs,hsz with
  | [v0,vx],_=>
  have hr:Rel F own w (.os id) v0:=hl.2 0 _ rfl;have hrk:Rel F own w sk vx:=hl.2 1 _ rfl;obtain⟨hdd,h1,rfl,h2⟩:=iz hr;cases ho:ap h id with
  |mp kk vk l apj=>
   rw[ho]at E;simp only[aaP]at E;cases hc:lw kk ti.mkt&&lw vk ti.mvt&&noE apj with
   |false=>grind
   |true=>
    rw[hc]at E;simp only[cond_true]at E;simp only[akZ]at hc;unfold aaO at E;split at E
    rename_i x hx;subst E;obtain⟨kt,e,q1,q2,q3⟩:=zc ht (nH hc.1.1) (nH hc.1.2);obtain⟨hd',e0,b,es,X,m1,m2,m3,Y,m5,_⟩:=hp.at ho rfl;rw[h1]at e0;cases e0;rw[km hc.2]at Y;have rx:=rN hrk hx;have hg:(getObj b).run P w=.ok (.map es X) w:=by simp[getObj,Sem.run,m3]
    have W:∀ o,(setObj b o).run P w=.ok () (Ab w b o):=λo=>by simp[setObj,Sem.run,m3,Ab]
    have hck:=tQ q2 rx es.isEmpty;have V:=vA q2 rx Y.1 (λi p hp=>by obtain⟨e,e1,e2,e3,_⟩:=Y.2 i p hp;grind);refine⟨_,rfl,?_⟩;simp only[bf];cases O:ol l x with
    |none=>
     have:=uB hp h1 m2 m1 m3 es X (l':=sq kk vk l x) (p':=none) (λee w' g=>by
      simp only[eI,sq,Iw O];exact Y.carry g.apb) m5 trivial
     refine⟨.tuple #[],_,?_,this⟩;rw[O]at V;simp only[m1,Builtin.delete_,hty,anb,anH,am9,alv,run_underlying q1,alh,hg,hck,V,Option.bind_none,W,amp]
    |some i=>
     obtain⟨y',n1,n2,n3,_⟩:=r9 O;obtain⟨e',k1,k2,k3,k4⟩:=Y.2 i _ n1;have:=uB hp h1 m2 m1 m3 (es.eraseIdxIfInBounds i) X (l':=sq kk vk l x) (p':=none) (λee w' g=>by
      simp only[eI,sq,Ix O];exact apw.erase g Y i) (m5.erase i) trivial
     refine⟨.tuple #[],_,?_,this⟩;rw[O]at V;simp only[m1,Builtin.delete_,hty,anb,anH,am9,alv,run_underlying q1,alh,hg,hck,V,amG,k1,amn,W,amp]
    grind
  |_=>rw[ho]at E;exact absurd E.symm hne
 grind
theorem OV{i:Nat}{e':MapEntry}(O:es[i]? =some e')(E:Value):(es.modify i λe=>{ e with key:=E})=es.modify i λe=>{ e with key:=E,val:=e'.val}:=by
 grind
theorem XZ(hp:Hp F own w h){nx:Nat}(hn:apB own h nx)(ht:jn P t=some ti){s:SV}(hr:Rel F own w s v)(hrk:Rel F own w sk Y)(W:yi ti nx h sk s=r)(hne:r≠ .bad):
  CN F own w h ((Instr.mapEntry t v Y).run P w) r:=by
 unfold yi at W;split at W
 ·rename_i id;obtain⟨hdd,h1,rfl,h2⟩:=iz hr;cases ho:ap h id with
  |mp kk vk l apj=>
   rw[ho]at W;simp only[RR]at W;cases hc:lw kk ti.mkt&&lw vk ti.mvt&&noE apj with
   |false=>grind
   |true=>
    rw[hc]at W;simp only[cond_true]at W;simp only[akZ]at hc;unfold RQ at W;split at W
    rename_i x hx;subst W;obtain⟨kt,e,q1,q2,q3⟩:=zc ht (nH hc.1.1) (nH hc.1.2);obtain⟨hd',e0,b,es,E,m1,m2,m3,m4,m5,_⟩:=hp.at ho rfl;rw[h1]at e0;cases e0;rw[km hc.2]at m4;have rx:=rN hrk hx;obtain⟨i,hi,ap5⟩:=Bq q3;have hz:∃ z,i.zero=some z:=by
     have:=Bp ap5;simp only[Eb,akZ]at this;grind
    obtain⟨z,hz⟩:=hz;have hzr:=Mc (F:=F) (own:=own) (w:=w) ap5 hz;have hzv:(zeroValue e).run P w=.ok z w:=by simp[zeroValue,typeInfo,hi,hz]
    have hg:(getObj b).run P w=.ok (.map es E) w:=by simp[getObj,Sem.run,m3]
    have hset:∀ o,(setObj b o).run P w=.ok () (Ab w b o):=λo=>by simp[setObj,Sem.run,m3,Ab]
    have hck:=tQ q2 rx false;have hfk:=vA q2 rx m4.1 (λi p hp=>by obtain⟨e,e1,e2,e3,_⟩:=m4.2 i p hp;grind);have hidn:id≠nx:=λe=>by rw[e,hn.none]at h1;cases h1
    have st1:∀ n:Nat,Step F own w (cL h nx (.fwd none)) (own.move [] nx ⟨none,.int .i64 n,[],[]⟩) w:=λn=>
     kO (nx:=nx) hp hn [] (by simp) ⟨none,.int .i64 n,[],[]⟩ (.fwd none) (λb hb=>by simp at hb) (λ_ _ _=>rfl) (ak2 _) rfl rfl rfl λee g i hi=>by cases hi
    have go:∀ n:Nat,(own.move [] nx ⟨none,.int .i64 n,[],[]⟩) id=some hdd:=λn=>by grind [Own.move]
    have gx:∀ n:Nat,(own.move [] nx ⟨none,.int .i64 n,[],[]⟩) nx=some ⟨none,.int .i64 n,[],[]⟩:=λn=>by simp[Own.move]
    have fin:∀ (n:Nat) (O:Array MapEntry) (c':Nat),(∀ ee w',ao_ F own w ee w'->apw F ee w' kk vk (eI kk vk l (some (nx,some x))) O)->Stamped O c'->(∃ e,O[un kk vk l x]? =some e/\e.born=n)->
      Step F own w (bf h [(nx,.fwd none),(id,.mp kk vk l (some (nx,some x)))]) (own.move [] nx ⟨none,.int .i64 n,[],[]⟩) (Ab w b (.map O c')):=λn O c' hm hs hpd=>by
     obtain⟨e1,p1,p2⟩:=hpd;have s1:=st1 n;have s2:=uB s1.hp (go n) m2 m1 m3 O c' (l':=l) (p':=some (nx,some x)) (λee w' g=>hm _ _ ⟨λid hd h=>by obtain⟨hd',a,b⟩:=s1.fr.apg.ids (F:=F) id hd h;obtain⟨X,a2,b2⟩:=g.ids _ _ a;exact⟨X,a2,b.trans b2⟩,λb hb hn=>by
      obtain⟨a1,a2⟩:=s1.fr.apg.keep b hb hn;obtain⟨a3,a4⟩:=g.keep b hb a1;grind,g.size⟩) hs ⟨_,e1,gx n,p1,by rw[p2]⟩
     refine⟨s2.hp,s1.fr.trans s2.fr,λj V hd=>?_⟩;have X:dL (ap (cL (cL h nx (.fwd none)) id (.mp kk vk l (some (nx,some x)))) j)=true:=hd;rw[dG,dG]at X;by_cases e:j=nx
     subst e;rw[if_neg hidn,if_pos rfl]at X;cases X;grind [Own.move]
    cases hmi:ol l x with
    |none=>
     obtain⟨n1,n2,n3⟩:=uA hmi;have hpos:un kk vk l x=es.size:=by rw[m4.1];simp[un,n3]
     have:=fin E (es.push ⟨Y,z,E⟩) (E+1) (λee w' g=>by
      simp only[eI,n1,Option.isSome_none,ak7,if_false];grind [apw.push]) (m5.push Y z) ⟨⟨Y,z,E⟩,by grind,rfl⟩
     refine⟨_,_,_,_,rfl,λ_=>⟨trivial,.tuple #[z,.int .i64 E],_,_,?_,.tup rfl λj s V=>?_,this⟩⟩;simp_all [Instr.mapEntry,run_underlying,goInt];match j,V with
     |0,V=>cases V;have:=hzr.mono this.fr.apg;simp_all [aq]|1,V=>cases V;exact .os (gx E) rfl
    |some i=>
     obtain⟨y',n1,n2,n3,n4⟩:=r9 hmi;obtain⟨e',k1,k2,k3,k4⟩:=m4.2 i _ n1;have hes':=OV k1 Y;have hpos:un kk vk l x=i:=n4;have:=fin e'.born (es.modify i λe=>{ e with key:=Y}) E (λee w' g=>by
      simp only[eI,n2,Option.isSome_some,if_true];rw[hes'];have:=apw.upd g m4 rx k4 (ak4.1 n1).1
      rwa[show l.set i (x,y')=l by
       apply List.ext_getElem?;intro j;rw[amQ];grind]at this) (m5.modify λ_=>rfl) ⟨{ e' with key:=Y},by grind,rfl⟩
     refine⟨_,_,_,_,rfl,λ_=>⟨trivial,.tuple #[e'.val,.int .i64 e'.born],_,_,?_,.tup rfl λj s V=>?_,this⟩⟩;rw[hmi]at hfk;have hst:=QJ q2 k3 rx;simp_all [Instr.mapEntry,run_underlying,goInt];match j,V with
     |0,V=>cases V;have:=k4.mono this.fr.apg;simp_all [aq]|1,V=>cases V;exact .os (gx _) rfl
    grind
  |_=>rw[ho]at W;exact absurd W.symm hne
 grind
theorem Uk{i:Nat}{e:MapEntry}(O:(kD es).Nodup)(hi:es[i]? =some e):es.findIdx? (λx=>(x.born:Int) ==(e.born:Int))=some i:=by
 obtain⟨hn,E⟩:=amh.1 hi;rw[Array.findIdx?_eq_some_iff_getElem];refine⟨hn,by simp[E],λj V=>?_⟩;simp only[beq_iff_eq];grind [List.pairwise_iff_getElem,kD]
theorem X0(hp:Hp F own w h)(ht:jn P t=some ti){s ss sv:SV}{vs vy:Value}(hr:Rel F own w s v)(hrs:Rel F own w ss vs)(hrv:Rel F own w sv vy)(E:JG ti h sv s ss=r)(V:r≠ .bad):
  ∃ c ups,r=.eff c True ups .any/\(c->∃ w',(Instr.entryStore t v vs vy).run P w=.ok () w'/\Step F own w (bf h ups) own w'):=by
 unfold JG at E;split at E
 ·rename_i id n;obtain⟨hdd,h1,rfl,h2⟩:=iz hr;obtain⟨hds,s1,rfl,_⟩:=iz hrs;cases ho:ap h id with
  |mp kk O l Y=>
   rw[ho]at E;cases Y with
   |none=>exact absurd E.symm V
   |some q=>
   obtain⟨n',q⟩:=q;cases q with
   |none=>exact absurd E.symm V
   |some x=>
   simp only[aaN]at E;cases hc:lw kk ti.mkt&&lw O ti.mvt&&Nat.beq n' n with
   |false=>grind
   |true=>
    rw[hc]at E;simp only[cond_true]at E;simp only[akZ]at hc;have hnn:=ak0 hc.2;subst hnn;unfold aaM at E;split at E
    rename_i y hy;subst E;obtain⟨hd',e0,b,es,X,m1,m2,m3,m4,m5,hd2,e',t1,k1,t3⟩:=hp.at ho rfl;rw[h1]at e0;cases e0;rw[s1]at t1;cases t1;have ry:=rN hrv hy;refine⟨_,_,rfl,λ_=>?_⟩;simp only[bf];have hg:(getObj b).run P w=.ok (.map es X) w:=by simp[getObj,Sem.run,m3]
    have hset:∀ o,(setObj b o).run P w=.ok () (Ab w b o):=λo=>by simp[setObj,Sem.run,m3,Ab]
    have hpos:∃ y0,(eI kk O l (some (n',some x)))[un kk O l x]? =some (x,y0)/\cH kk O l x y=(eI kk O l (some (n',some x))).set (un kk O l x) (x,y):=by
     cases W:ol l x with
     |none=>
      obtain⟨n1,n2,n3⟩:=uA W;simp_all [eI,un,cH]
     |some i=>
      obtain⟨y',n1,n2,n3,n4⟩:=r9 W;grind [eI,un,cH]
    obtain⟨y0,p1,p2⟩:=hpos;obtain⟨e'',k1',k2,k3,k4⟩:=m4.2 _ _ p1;rw[k1]at k1';cases k1';have hlt:un kk O l x<es.size:=(amh.1 k1).1;have hes':(es.modify (un kk O l x) λe=>{ e with val:=vy})=es.modify (un kk O l x) λe=>{ e with key:=e'.key,val:=vy}:=by
     apply aon;simp;intro j h1 h2;simp only[Array.getElem_modify];grind
    have:=uB hp h1 m2 m1 m3 (es.modify (un kk O l x) λe=>{ e with val:=vy}) X (l':=cH kk O l x y) (p':=none) (λee w' g=>by
     grind [apw.upd,eI]) (m5.modify λ_=>rfl) trivial
    refine⟨_,?_,this⟩;have hfi:=Uk m5.1 k1;simp_all [Instr.entryStore,asInt,tL];grind
  |_=>rw[ho]at E;exact absurd E.symm V
 grind
end
section
variable {P:Program}{F:Nat->Prop}{own:Own}{w:World}
variable {k:Tag}{m:List k.T}{v:Value}
theorem aoS.swap{V:List Nat}(h1:pt v=true)(Y:aoO F own w k m v V):∀ {l:List (List k.T)} {vs:List Value} {bs:List Nat} {i:Nat},aoS F own w k l vs bs->i<l.length->bs.Nodup->V.Nodup->(∀ b∈bs,b ∉ V)->
  ∃ E,aoS F own w k (l.set i m) (vs.set i v) E/\(∀ b∈E,b∈bs\/b∈V)/\E.Nodup
 |l::ls,u::vs,bs,0,⟨b1,b2,e,h0,h2,h3⟩,_,hn,hbn,hd=>by
  subst e;have O:=amm.1 hn;refine⟨V++b2,⟨V,b2,rfl,h1,Y,h3⟩,λb W=>?_,amm.2 ⟨hbn,O.2.1,λa X b W e=>hd b (amM _ W) (e▸X)⟩⟩;grind
 |l::ls,u::vs,bs,i+1,⟨b1,b2,e,h0,h2,h3⟩,hi,hn,hbn,hd=>by
  subst e;have O:=amm.1 hn;obtain⟨E,q1,q2,q3⟩:=aoS.swap h1 Y h3 (by simpa using hi) O.2.1 hbn λb W=>hd b (amM _ W);refine⟨b1++E,⟨b1,E,rfl,h0,h2,q1⟩,λb W=>?_,amm.2 ⟨O.1,q3,λa X b W e=>?_⟩⟩ <;>grind
 | [],_,_,_,_,hi,_,_,_=>absurd hi (Nat.not_lt_zero _)|_::_,[],_,_,h,_,_,_,_=>h.elim
theorem Step.fwd {h1:List Ob}{E:Own}{w1:World}(s:Step F own w h1 E w1){id nx:Nat}{hd0 hd':Hd}(W:E id=some hd0)(hb:hd0.bs=[])(hnx:E nx=some hd')(hv:hd'.v=hd0.v)(h0:pt hd0.v=true)(hl:id<h1.length)(ho:own id≠none):
  Step F own w (cL h1 id (.fwd (some nx))) E w1:=by
 have V:∀ j,ap (cL h1 id (.fwd (some nx))) j=if id=j then .fwd (some nx)else ap h1 j:=λj=>dG ..;have Y:(cL h1 id (.fwd (some nx))).length=h1.length:=by rw[cI,if_pos hl]
 refine⟨s.hp.upd (ao_.refl _ _ _) (λj=>j=id) (by omega) (λj O=>⟨rfl,by grind,λ_ _ _ _=>rfl⟩) (λj hd O e=>?_) (λj O _=>?_),s.fr,λj O hd=>?_⟩;grind
 subst O;refine⟨hd0,W,?_⟩;rw[V,if_pos rfl];intro i e;grind;have X:id≠j:=λe=>ho (e▸O);rw[V,if_neg X]at hd;exact s.fresh j O hd
variable {h:List Ob}{t:TypeId}{ti:TI}
theorem Sm(Y:Hp F own w h){nx:Nat}(hn:apB own h nx)(ht:jn P t=some ti){id E:Nat}{i:Int}{l:List (List k.T)}{vx:Value}(hr:Rel F own w (.rp 1 id i 0) v)(hrx:Rel F own w (.os E) vx)(hne:id≠E)(hsz:ti.size=1)
  (ho:ap h id=.aoV k l) (ho2:ap h E=.row k m):∃ ee w',(Instr.storeAt t v vx).run P w=.ok () w'/\Step F own w (bf h [(id,.dead),(E,.dead),(nx,.aoV k (l.set i.toNat m)),(id,.fwd (some nx))]) ee w':=by
 cases hr with
 |rp h1 h2 h3=>
 rename_i n cap b o hd;obtain⟨O,g1,rfl,g2⟩:=iz hrx;obtain⟨hd',e0,e⟩:=Y.at ho rfl;rw[h1]at e0;cases e0;obtain⟨hd2',e0,hm⟩:=Y.at ho2 rfl;rw[g1]at e0;cases e0;rcases e with⟨q,_⟩ | ⟨b',o',cap',cs,ty,bs,e1,e2,e3,e4,e5,e6,e7,e8,e9⟩;grind
 have e1':=e1;rw[h2]at e1;simp only[al6,ak3,ams]at e1;obtain⟨⟨rfl,rfl,_⟩,rfl,rfl⟩:=e1;obtain⟨cs',w',q1,X,q3,q4,q5⟩:=xN (P:=P) ht hrx (xs:=[.os E]) rfl (by rw[hsz];rfl) (λj s W v hv=>by
  cases j with
  |zero=>simp at W;subst W;obtain⟨hd3,_,rfl,k2⟩:=iz hv;exact my k2
  |succ j=>simp at W) (off:=o+i.toNat) e4 (by simp;omega)
 have hnd:bs.Nodup/\b ∉ bs:=by grind
 have hbb:b∈hd.bs:=by grind
 have hdis:∀ c∈hd.bs,c ∉ O.bs:=λc hc hc2=>hne (Y.inj id E hd O c h1 g1 hc hc2);have hnd2:O.bs.Nodup:=by rcases hm.blocks with e| ⟨c,e⟩ <;>rw[e] <;>simp
 obtain⟨V,r1,r2,r3⟩:=e9.swap (i:=i.toNat) g2 hm h3 hnd.1 hnd2 (λc hc=>hdis c (by grind));have hb':b ∉ V:=λhm=>by
  grind
 have hK:∀ id'∈[id,E],∃ hd,own id'=some hd:=by grind
 have hKl:id<h.length:=Y.dom _ _ h1;have hnk:nx ∉ [id,E]:=λhm=>by obtain⟨hd,e⟩:=hK nx hm;rw[hn.none]at e;cases e
 have hu:cs'[o+i.toNat]? =some O.v:=by
  obtain⟨u,k1,k2⟩:=q4 (o+i.toNat) (ak2 _) (by simp);obtain⟨hd3,k3,k4,_⟩:=iz (k2 (.os E) (by simp));grind
 have st:=kO (w':=w') Y hn [id,E] hK ⟨none,hd.v,hd.vs.set i.toNat O.v,b::V⟩ (.aoV k (l.set i.toNat m)) (λc hc=>by
   grind)
  (λc _ hno=>X.other c λe=>hno ⟨id,by simp,hd,h1,e▸hbb⟩) (by rw[X.size];omega) X.os X.tape X.output
  (λee g=>.inr ⟨b,o,cap,cs',ty,V,by grind,rfl,alH.2 ⟨hb',r3⟩,X.here,by omega,by grind,by grind,λj u W=>by
    rw[amQ]at W;grind,r1.carry g.apb λc hc=>X.other c λe=>hb' (e▸hc)⟩)
 have hmv:=ke nx (.aoV k (l.set i.toNat m)) [id,E] h 0 hnk (λj W=>by obtain⟨hd,e⟩:=hK j W;exact Y.dom _ _ e);have hidn:id≠nx:=λe=>hnk (e▸by simp);have:=st.fwd (id:=id) (nx:=nx) (hd0:= { hd with bs:=[]}) (hd':=⟨none,hd.v,hd.vs.set i.toNat O.v,b::V⟩) (by grind [Own.move]) rfl (by simp[Own.move]) rfl (by show pt hd.v=true;rw[h2];rfl) (ale hKl hmv.2.1) (by rw[h1];simp);exact⟨_,w',by grind,this⟩
def EM {k:Tag}(a:Option Addr):∀ n:Nat,aoS F own w k (List.replicate n []) (List.replicate n (.slice a 0 0)) []
 |0=>rfl|n+1=>⟨[],[],rfl,rfl,.inl ⟨a,rfl,rfl,rfl⟩,EM a n⟩
variable {r:OR}
theorem X3(hp:Hp F own w h){nx:Nat}(hn:apB own h nx){te tr:TI}(ht:jn P t=some ti)(hte:jn P ti.elem=some te)(hsl:ti.isSlice=true){sl sc:SV}{vl vc:Value}(hrl:Rel F own w sl vl)(hrc:Rel F own w sc vc)(O:Hj nx te tr sl sc=r)(hne:r≠ .bad):
  CN F own w h ((Instr.makeSlice t vl vc).run P w) r:=by
 obtain⟨i,d,z,hi,hd,hz,hq,rfl⟩:=bY ht;obtain⟨V,de,ze,Y,hde,hze,hqe,E⟩:=bY hte;cases d <;>simp[dP]at hsl;rename_i e;simp only[dP]at Y;unfold Hj at O;split at O
 ·rename_i n c;have el:=cT hrl;have ec:=cT hrc;subst el;subst ec;unfold XK at O;split at O
  ·rename_i k ap5;cases W:Nat.beq te.size 1&&XJ te.zero&&Nat.ble 1 te.bytes with
   |false=>grind
   |true=>
   rw[W]at O;simp only[cond_true]at O;subst O;simp only[akZ]at W;have hes:te.size=V.size:=by rw[E];rfl
   have heb:te.bytes=V.bytes:=by rw[E];rfl
   have hez:te.zero=svs ze:=by simp_all [dP]
   have t1:V.size=1:=by simp_all
   have hzc:ze.cells= #[.slice none 0 0]:=by
    have:=W.1.2;rw[hez]at this;unfold XJ at this;split at this
    rename_i q;unfold svs at q;have q2:ze.cells.toList=[.slice none 0 0]:=by
     simp_all
    grind
    cases this
   refine⟨_,_,_,_,rfl,λ⟨hc1,X,hc3⟩ =>?_⟩;subst hc1;rw[heb]at hc3;have hby:1<=V.bytes:=by simp_all
   have hnb:n<=n*(V.bytes:Int):=by
    have:n*1<=n*(V.bytes:Int):=amJ (by omega) X;omega
   have hnm:n<=(aN:Int):=by grind [d8,aN]
   refine⟨hnm,?_⟩;have hrun:=run_make (P:=P) w t e V ze hd Y hze .i64 .i64 n n X (alJ _) (by grind [d8]) (by grind [aN]);refine⟨_,_,_,hrun,Rel.os (F:=F) (id:=nx) (hd:=⟨none,.slice (some ⟨w.heap.size,0,none⟩) n.toNat n.toNat,List.replicate n.toNat (.slice none 0 0),[w.heap.size]⟩) (Own.aoY _ _ _) rfl,uu hp hn (w1:=w) ⟨rfl,rfl,rfl,rfl⟩ _ _ _ rfl λee g=>.inr ⟨w.heap.size,0,n.toNat,_,e,[],by simp,rfl,by simp,kC _ _,?_,by simp,by simp;omega,λq x hx=>?_,EM none _⟩⟩;grind [size_madeCells]
   have hql:q<n.toNat:=by grind
   simp_all [madeCells,aoo]
  grind
 grind
theorem Sn(hp:Hp F own w h){nx:Nat}(hn:apB own h nx)(ht:jn P t=some ti){s sx:SV}{Y:Value}(hr:Rel F own w s v)(X:Rel F own w sx Y)
  (E:rg ti.size nx h s sx=r) (V:r≠ .bad):∃ ups ee w',r=.eff True True ups .any/\(Instr.storeAt t v Y).run P w=.ok () w'/\Step F own w (bf h ups) ee w':=by
 have old:rf ti.size h s (ph sx)=r->∃ ups ee w',r=.eff True True ups .any/\(Instr.storeAt t v Y).run P w=.ok () w'/\Step F own w (bf h ups) ee w':=λE=>by
  obtain⟨ups,e,w',e1,e2⟩:=Sh (P:=P) hp ht hr X E V;grind
 unfold rg at E;split at E
 rename_i sz id i off W;cases hg:JA (ap h id)with
 |false=>grind
 |true=>
  rw[hg]at E;simp only[cond_true]at E;cases hc:Nat.beq ti.size 1&&Nat.beq sz 1&&Nat.beq off 0&& !(Nat.beq id W)with
  |false=>grind
  |true=>
   rw[hc]at E;simp only[cond_true]at E;simp only[akZ,alm]at hc;have c1:=ak0 hc.1.1.1;have c2:=ak0 hc.1.1.2;have c3:=ak0 hc.1.2;have c4:id≠W:=λe=>by simp_all
   subst c2;subst c3;cases ho:ap h id with
   |aoV k l=>
    rw[ho]at E;simp only[Eh]at E;cases O:ap h W with
    |row k' m'=>
     rw[O]at E;simp only[Ot]at E;split at E
     rename_i ek;subst ek;obtain⟨ee,w',e1,e2⟩:=Sm (P:=P) hp hn ht hr X c4 c1 ho O;exact⟨_,ee,w',E.symm,e1,e2⟩;exact absurd E.symm V
    |_=>rw[O]at E;exact absurd E.symm V
   |_=>rw[ho]at hg;cases hg
 grind
theorem EN{l:List k.T}{lo hi:Int}(h:hi.toNat<=l.length):(wM k l lo hi).length=l.length:=by
 grind [wM]
theorem Hn {z:Array Value}{n i:Nat}(h:i<n*z.size):(Builtin.zeroCells z n)[i]? =some (z[i % z.size]!):=by
 simp[Builtin.zeroCells,h]
theorem X4(hp:Hp F own w h){te:TI}(ht:jn P t=some ti)(hte:jn P ti.elem=some te){l:List SV}{vs:Array Value}(hl:aoX F own w l vs)(V:y5 ti te h l=r)(hne:r≠ .bad)(ty:TypeId):
  CN F own w h ((Builtin.clear_ #[t] ty vs).run P w) r:=by
 obtain⟨i,d,z,hi,hd,hz,hq,rfl⟩:=bY ht;obtain⟨ie,de,X,hie,hde,hze,hqe,hte'⟩:=bY hte;unfold y5 at V;split at V
 ·rename_i s id lo E;obtain⟨vs⟩:=vs;have hsz:=hl.1;match vs,hsz with
  | [v0],_=>
  have hr:Rel F own w (.vw s id lo E) v0:=hl.2 0 _ rfl;cases hsl:(dP P t i d).isSlice with
  |false=>grind
  |true=>
  rw[hsl]at V;simp only[cond_true]at V;cases d <;>simp[dP]at hsl;rename_i e;simp only[dP]at hie;cases hr with
  | @vw _ _ cap _ _ hd' a h1 h2 hcap3=>
  cases ho:ap h id with
  |row k m=>
   rw[ho]at V;simp only[aaJ]at V;cases hc:Nat.beq s (aa k)&&Qw k te.tag with
   |false=>grind
   |true=>
    rw[hc]at V;simp only[cond_true]at V;subst V;rw[akZ]at hc;have hs:=ak0 hc.1;have W:te.tag=some k:=by
     cases hq:te.tag with
     |none=>grind [Qw]|some b=>rw[hq]at hc;rw[uv (k:=k) (k':=b) hc.2]
    have ap5:yF P e ie=some k:=by rw[hte']at W;exact W
    obtain⟨t1,t2,t3,t4⟩:=z9 (F:=F) (own:=own) (w:=w) ap5;have Y:=(t4 X hze).1;have hzs:X.cells.size=aa k:=by rw[Y.1,bK]
    have hzv:(zeroValue e).run P w=.ok X w:=by simp[zeroValue,typeInfo,hie,hze]
    obtain⟨hdd,e0,O⟩:=hp.at ho rfl;rw[h1]at e0;cases e0;have O:aoO F own w k m hd'.v hd'.bs:=O;refine⟨_,_,_,_,rfl,λ_=>⟨trivial,.tuple #[],own,?_⟩⟩;simp only[bf];by_cases hlt:E.toNat<=lo.toNat
    have hn0:E.toNat - lo.toNat=0:=by omega
    refine⟨w,?_,.any _,?_⟩;rw[hn0];cases a <;>simp[Builtin.clear_,run_underlying hd];rw[wM,if_pos hlt];exact Ip hp h1 _ O;obtain⟨b,o,n,cap',e1,e2,e3⟩:=h2.resolve_left hlt;subst e3;rcases O with⟨a',q1,rfl,q2⟩ | ⟨b',o',cap2,cs,ty2,q1,q2,q3,q4,q5,q6,q7⟩;grind
    rw[e1]at q1;simp only[al6,ak3,ams]at q1;obtain⟨⟨rfl,rfl,_⟩,rfl,rfl⟩:=q1;subst hs;have hN:(E.toNat - lo.toNat)≠0:=by omega
    obtain⟨N,hN'⟩:∃ N,E.toNat - lo.toNat=N+1:=⟨E.toNat - lo.toNat - 1,by omega⟩;have hmul:lo.toNat*aa k+(E.toNat - lo.toNat)*aa k<=cap'*aa k:=by
     rw[<-anx];exact alg _ (by omega)
    have hzc:(Builtin.zeroCells X.cells (E.toNat - lo.toNat)).toList.length=(E.toNat - lo.toNat)*aa k:=by rw[Array.length_toList,rj,hzs]
    have hone:∀ v∈(Builtin.zeroCells X.cells (E.toNat - lo.toNat)).toList,v.oneCell'=true:=λv hv=>by
     have hm:v∈X.cells:=by
      simp only[Builtin.zeroCells]at hv;simp at hv;obtain⟨w9,hv1,hv2⟩:=hv;have hpos:0<X.cells.size:=by
       grind
      have:=am5 w9 hpos;grind
     obtain⟨j,hj,rfl⟩:=an3 hm;have hjl:j< (cellsOf k (eG k)).length:=by rw[<-Y.1];exact hj
     have:=Y.2 j _ (alb hjl);have h9:=JP (alb hjl) this;rw[alw,amA hj]at h9;exact my h9
    obtain⟨cs',w',p1,p2,p3,p4⟩:=jW (P:=P) (b:=b) (o:=o+lo.toNat*aa k) (ty:=ty2) (Builtin.zeroCells X.cells (E.toNat - lo.toNat)).toList 0 w cs q3 (by omega) hone;refine⟨w',?_,.any _,pu hp h1 (b:=b) (by rw[q2];simp) p2.size p2.other p2.os p2.tape p2.output _ λg=>.inr ⟨b,o,cap',cs',ty2,?_,q2,p2.here,by omega,?_,?_,?_⟩⟩;simp_all [Builtin.clear_,run_underlying];grind [EN]
    grind [EN]
    grind [EN]
    intro q x hx j s hj;rw[wM,if_neg hlt]at hx;have hjl:j<aa k:=by grind [bK]
    rw[p4,hzc];have hql:q<m.length:=by
     grind
    by_cases hin:lo.toNat<=q/\q<E.toNat
    have hx':x=eG k:=by
     grind [List.getElem?_append_left]
    subst hx';have hlow:lo.toNat*aa k<=q*aa k:=alg _ hin.1;have hup:q*aa k+aa k<=E.toNat*aa k:=by rw[<-anp];exact alg _ hin.2
    have hsub:(E.toNat - lo.toNat)*aa k=E.toNat*aa k - lo.toNat*aa k:=aop _ _ _;rw[if_pos (by omega)];refine⟨X.cells.getD j undef,?_,(Y.2 j s hj).mono g⟩;have hidx:o+q*aa k+j - (o+lo.toNat*aa k+0)=(q - lo.toNat)*aa k+j:=by rw[aop];omega
    rw[hidx,amL];have hlt2:(q - lo.toNat)*aa k+j< (E.toNat - lo.toNat)*aa k:=by omega
    have hmod:((q - lo.toNat)*aa k+j) % aa k=j:=by rw[Nat.mul_comm,Nat.mul_add_mod,anG hjl]
    have:=Hn (z:=X.cells) (n:=E.toNat - lo.toNat) (i:=(q - lo.toNat)*aa k+j) (by grind);simp_all;rw[if_neg (by
     rintro⟨a1,a2⟩;apply hin;rw[aop]at a2;refine⟨?_,?_⟩;apply alD;intro hc;have:(q+1)*aa k<=lo.toNat*aa k:=alg _ (by omega);grind
     apply alD;intro hc;have h5:E.toNat*aa k<=q*aa k:=alg _ (by omega);omega)]
    have hx2:m[q]? =some x:=by
     by_cases h0:q<lo.toNat
     grind
     rw[amV (by simp;omega),anr]at hx;grind
    obtain⟨u,u1,u2⟩:=q7 q x hx2 j s hj;exact⟨u,u1,u2.mono g⟩
  |_=>rw[ho]at V;exact absurd V.symm hne
 grind
end
end Go.Sx
end
section
namespace Go.Sx
variable {P:Program}
variable {since clock:Nat}{seen:Array Nat}{es:Array MapEntry}
theorem JZ{w:World}{ty:TypeId}{b bm c0:Nat}(W:w.heap[b]? =some (.mapIter (some bm) since seen c0))(hm:w.heap[bm]? =some (.map es clock))(E:∀ x∈es.toList,x.born<since)(hsc:since<=c0):
  ((leftOf es seen).size=0/\(Instr.next (.pointer (some ⟨b,0,none⟩)) false ty).run P w=.ok (.tuple #[.bool false]) w)\/
  ∃ e∈(leftOf es seen).toList,∃ w1:World,(w1=w\/w1=w.drew)/\(Instr.next (.pointer (some ⟨b,0,none⟩)) false ty).run P w=.ok (.tuple #[.bool true,e.key,e.val]) { w1 with heap:=w1.heap.setIfInBounds b (.mapIter (some bm) since (seen.push e.born) clock)}:=by
 simp only[Instr.next,getObj,alv,Sem.run,W,hm,Result.andThen,next_test_false seen es since c0 E hsc,ak7,if_false];unfold leftOf;have O:∀ x∈(Array.filter (λe=>!seen.contains e.born) es).toList,x.born<since:=λx hx=>E x (by grind);generalize Array.filter (λe=>!seen.contains e.born) es=L at O |-;have e1:L.filter (λx=>decide (x.born<since))=L:=Array.filter_eq_self.2 (λx hx=>by grind);have e2:L.filter (λx=>decide (x.born>=since))= #[]:=by
  simp_all
 simp only[e1,e2,Array.append_empty];by_cases h0:L.size=0
 simp_all [Question.forced];right;have Y:L.isEmpty=false:=by grind
 simp only[Y,ak7,if_false,Array.empty_append,Array.size_map];have X:∃ (j:Nat) (w1:World),j<L.size/\(w1=w\/w1=w.drew)/\(choose (Question.mapNext L.size)).run P w=.ok j w1:=by
  by_cases hf:L.size<=1
  exact⟨0,w,by omega,.inl rfl,by simp[choose,Sem.run,Question.forced,hf]⟩;exact⟨_,w.drew,am5 _ (by omega),.inr rfl,by
   simp only[choose,Sem.run,Question.forced,decide_eq_true_eq,hf,if_false,Question.cut];rfl⟩
 obtain⟨j,w1,hj,V,hrun⟩:=X;have hb1:w1.heap[b]? =some (.mapIter (some bm) since seen c0):=by
  rcases V with rfl|rfl;exact W;exact W
 refine⟨L[j],by simp,w1,V,?_⟩;simp_all [setObj,Sem.run]
theorem Ho{w:World}{b bm:Nat}{e:MapEntry}(V:w.heap[b]? =some (.mapIter (some bm) since (seen.push e.born) clock))(O:w.heap[bm]? =some (.map es clock))(E:e∈es.toList)(hn:(es.toList.map (·.born)).Nodup):
  (Instr.entry (.pointer (some ⟨b,0,none⟩))).run P w=.ok (.tuple #[e.key,e.val]) w:=by
 have W:es.find? (·.born==e.born)=some e:=by rw[<-Array.find?_toList];exact find_born e es.toList hn E
 simp only[Instr.entry,getObj,alv,Sem.run,V,O,Result.andThen,Array.back?_push,bne_self_eq_false,ak7,if_false,W];rfl
end Go.Sx
end
