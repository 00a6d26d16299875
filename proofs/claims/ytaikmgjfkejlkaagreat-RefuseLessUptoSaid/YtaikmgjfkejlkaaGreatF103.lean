/- Part of the proof that the law RefuseLess returns true and leaves its arguments as they were, for all arguments of bulk at most 1048576 (the Upto form). -/
import Derived.Test.YtaikmgjfkejlkaaGreatF102
import Derived.Laws.IdiomRangeMap
set_option linter.all false
set_option maxHeartbeats 4000000
set_option maxRecDepth 100000
section
namespace Go.Sx
open Go.RowKit
section
variable {P:Program}{F:Nat->Prop}{own:Own}{w:World}
variable {v:Value}
theorem iD{id:Nat}(h:Rel F own w (.os id) v):∃ hd,own id=some hd/\v=hd.v/\pr hd.v=true:=by
 cases h with|os h1 h2=>grind
variable {k:Tag}
theorem ao8.blocks{l:List k.T}{bs:List Nat}(h:ao8 F own w k l v bs):bs=[]\/∃ b,bs=[b]:=by
 rcases h with⟨_,_,_,e⟩ | ⟨b,_,_,_,_,_,e,_⟩ <;>grind
variable {m:List k.T}
theorem apb.app{u:Value}{E:List Nat}(X:pr u=true)(U:ao8 F own w k m u E):∀ {l:List (List k.T)} {vs:List Value} {bs:List Nat},apb F own w k l vs bs->apb F own w k (l++[m]) (vs++[u]) (bs++E)
 | [],[],bs,h=>by grind [apb]
 |l::Y,v::vs,bs,⟨c1,V,h1,O,h2,W⟩ =>⟨c1,V++E,by grind,O,h2,apb.app X U W⟩
 | [],_::_,_,h=>h.elim|_::_,[],_,h=>h.elim
variable {h:List Ob}{t t2 ty e e2:TypeId}{z:Value}
theorem D6(hp:Hp F own w h){nx:Nat}(hn:apX own h nx){i:TypeInfo}(ht:P.underlying t=some (.slice e))(ht2:P.underlying t2=some (.slice e2))(hi:P.info? e=some i)(hz:i.zero=some z)(hsz:i.size=1)(hzs:z.cells.size=1)(hby:1<=i.bytes)
   {l:List (List k.T)}  {hd E:Hd} {id2:Nat} (V:own id2=some E) (ho2:aq h id2=.row k m) (hone:pr E.v=true) {K:List Nat}
  (hob:aps F own w hd (.apg k l)) (hd0:(hd.bs=[]/\K=[id2])\/∃ id,id≠id2/\own id=some hd/\K=[id,id2]) {u:Value} (hu:Rel F own w (.ls 1 [.os id2]) u) (hfit:(l++[m]).length*i.bytes<=d9):
  (l++[m]).length<=aK/\∃ v' hd' w',(Builtin.append_ #[t,t2] ty #[hd.v,u]).run P w=.ok v' w'/\hd'.v=v'/\pr v'=true/\Step F own w (bf h (K.map (λid=>(id,Ob.dead))++[(nx,.apg k (l++[m]))])) (own.move K nx hd') w':=by
 have hlen:(l++[m]).length<=aK:=by
  have:(l++[m]).length<=(l++[m]).length*i.bytes:=amB _ hby;grind [d9,aK]
 refine⟨hlen,?_⟩;have h63:(l++[m]).length<=9223372036854775807:=by grind [aK]
 simp only[alA,aly,alJ,alF]at hlen h63 hfit;obtain⟨hd2',e0,hm⟩:=hp.at ho2 rfl;rw[V]at e0;cases e0;have hK2:id2∈K:=by grind
 have hK:∀ id∈K,∃ hd,own id=some hd:=by
  grind
 have hKb:∀ b∈hd.bs,∃ id∈K,∃ hd,own id=some hd/\b∈hd.bs:=by
  grind
 have W:∀ b∈hd.bs,b ∉ E.bs:=by
  rcases hd0 with⟨h1,rfl⟩ | ⟨id,hne,h1,rfl⟩;grind
  intro b hb hb2;exact hne (hp.inj id id2 hd E b h1 V hb hb2)
 have hlt:∀ b∈hd.bs,b<w.heap.size:=λb hb=>by obtain⟨id,_,hd',h1,h2⟩:=hKb b hb;exact hp.lt id hd' b h1 h2
 have hnd2:E.bs.Nodup:=by
  rcases hm.blocks with e| ⟨b,e⟩ <;>rw[e] <;>simp
 have hsrc:∃ a c,u=.slice a 1 c/\∀ w1:World,w1.heap=w.heap->(Builtin.firstCells i.size 1 u).run P w1=.ok #[E.v] w1:=by
  cases hu with
  |ls c hz h0 h1 h2=>
   rename_i m b o cap;have hm1:m=1:=by simpa using hz
   subst hm1;obtain⟨q1,q2⟩:=h1 0 _ rfl;obtain⟨hd3,q3,q4,q5⟩:=iD (h2 0 _ rfl);rw[V]at q3;cases q3;refine⟨_,_,rfl,λw1 hw1=>?_⟩;have:=run_firstCells_some (P:=P) w1 i.size 1 ⟨b,o,none⟩ 1 cap [E.v] (by simp[hsz]) (λj v hj=>by
    grind [nD,uh])
   omega
 obtain⟨au,cu,hue,Y⟩:=hsrc;have fin:∀ (bo:Own) (w':World),apx F own w bo w'->(∀ b∈E.bs,w'.heap[b]? =w.heap[b]?)->ao8 F bo w' k m E.v E.bs:=λbo w' g hb=>ao8.carry g.apz hb hm;have grow:∀ (a0:Option Addr) (cap:Nat) (bs:List Nat),hd.v=.slice a0 l.length cap->cap<l.length+1->(∀ w1:World,w1.heap=w.heap->(Builtin.firstCells i.size l.length hd.v).run P w1=.ok hd.vs.toArray w1)->hd.vs.length=l.length->bs.Nodup->(∀ b∈bs,b∈hd.bs)->
   apb F own w k l hd.vs bs->
   ∃ v' hd' w',(Builtin.append_ #[t,t2] ty #[hd.v,u]).run P w=.ok v' w'/\hd'.v=v'/\pr v'=true/\Step F own w (bf h (K.map (λid=>(id,Ob.dead))++[(nx,.apg k (l++[m]))])) (own.move K nx hd') w':=by
  intro a0 cap bs hv hcap X hol hbn hbsub hgi;rw[hv]at X;have O:=tD (P:=P) (ty:=ty) ht ht2 hi hz X ⟨au,cu,hue⟩ (news:=[E.v]) Y hcap h63 hfit;rw[<-hv]at O;have hge:=rH w (l.length+1) cap e;let cs:=hd.vs.toArray++[E.v].toArray++Builtin.zeroCells z.cells (grownCap w (l.length+1) cap e - (l.length+1))
  have hcs:cs.size=grownCap w (l.length+1) cap e:=by
   grind [rf]
  refine⟨_,⟨none,_,hd.vs++[E.v],w.heap.size::(bs++E.bs)⟩,_,O,rfl,rfl,kP hp hn K hK _ _ (λb hb=>?_) (λb hb _=>?_) ?_ rfl rfl rfl λbo g=>?_⟩;simp_all <;>grind;exact qA w.drew _ b hb;simp_all;have U:∀ b,b<w.heap.size->(w.drew.alloc (.cells cs e)).heap[b]? =w.heap[b]?:=λb hb=>qA w.drew _ b hb;refine .inr ⟨w.heap.size,0,grownCap w (l.length+1) cap e,cs,e,bs++E.bs,by simp,rfl,?_,kC w.drew _,by omega,by grind,by grind,λq v hq=>?_,?_⟩;rw[al6,amP];refine⟨λhb=>?_,hbn,hnd2,λa ha b hb e=>W a (hbsub a ha) (e▸hb)⟩;rcases al7.1 hb with hb|hb;grind
  exact amw _ (hp.lt id2 E _ V hb);grind
  exact apb.app hone (fin bo _ g λb hb=>U b (hp.lt id2 E b V hb)) (hgi.carry g.apz λb hb=>U b (hlt b (hbsub b hb)))
 rcases hob with⟨hv,rfl,hvs,hbs⟩ | ⟨b,o,cap,cs,tyb,bs,hv,hbs,hbn,h4,h5,h6,h7,h8,h9⟩;refine grow none 0 [] hv (by simp) (λw1 _=>by simp_all [Builtin.firstCells]) (by rw[hvs];rfl) amW (λb hb=>by cases hb) ?_;rw[hvs];rfl;have hbn':=hbn;rw[hbs,al6]at hbn';by_cases hroom:l.length+1<=cap
 obtain⟨cs',w',q1,q2,q3,q4⟩:=jR (P:=P) (b:=b) (o:=o+l.length*i.size) (ty:=tyb) [E.v] 0 w cs h4 (by grind) (λv hv=>by grind [mv]);have O:=wC (P:=P) (ty:=ty) ht ht2 hi (b:=b) (o:=o) (n:=l.length) (cap:=cap) (news:=[E.v]) ⟨au,cu,hue⟩ (Y w rfl) hroom (w':=w') q1;have U:∀ c,c≠b->w'.heap[c]? =w.heap[c]?:=q2.other;rw[<-hv]at O;refine⟨_,⟨none,_,hd.vs++[E.v],b::(bs++E.bs)⟩,w',O,rfl,rfl,kP hp hn K hK _ _ (λc hc=>?_) (λb' hb' hn'=>q2.other b' λe=>hn' (by grind)) (by rw[q2.size];omega) q2.os q2.tape q2.output λbo g=>?_⟩;grind
 refine .inr ⟨b,o,cap,cs',tyb,bs++E.bs,by simp,rfl,?_,q2.here,by omega,by grind,by grind,λq v hq=>?_,?_⟩;grind
 have hvl:=h9.len;rw[amn]at hq;rw[q4,hsz];split at hq
 grind
 rename_i hlt';have:q=hd.vs.length:=by grind
 simp_all;exact apb.app hone (fin bo _ g λc hc=>U c λe=>W b (by simp[hbs]) (e▸hc)) (h9.carry g.apz λc hc=>U c λe=>hbn'.1 (e▸hc));refine grow _ cap bs hv (by omega) (λw1 hw1=>?_) h9.len hbn'.2 (λc hc=>by grind) h9;rw[hv];refine run_firstCells_some (P:=P) w1 i.size l.length ⟨b,o,none⟩ _ cap hd.vs (by rw[h9.len,hsz,am_]) λj v hj=>?_;grind [nD,eE]
def _root_.Go.Sx.Own.fz (own:Own)(id:Nat):Own:=λj=>if j=id then(own j).map (λhd=>{ hd with bs:=[]})else own j
theorem abN(U:Hp F own w h){id:Nat}{hd:Hd}(E:own id=some hd){b:Nat}(V:b∈hd.bs):¬df F (own.fz id) b:=by
 rintro (Y| ⟨j,X,e,W⟩);exact U.apart id hd b E V Y;simp only[Own.fz]at e;by_cases O:j=id
 grind
 rw[if_neg O]at e;exact O (U.inj j id X hd b e E W V)
theorem abO(E:Hp F own w h){id:Nat}{b:Nat}(X:w.heap.size<=b):¬df F (own.fz id) b:=by
 rintro (W| ⟨j,V,e,O⟩);exact absurd (E.aoY b W) (by omega);simp only[Own.fz]at e;by_cases U:j=id
 simp_all <;>grind;rw[if_neg U]at e;exact absurd (E.lt j V b e O) (by omega)
theorem T8 {id:Nat}{hd:Hd}(W:own id=some hd){w':World}(E:∀ b,b<w.heap.size->b ∉ hd.bs->w'.heap[b]? =w.heap[b]?)(V:w.heap.size<=w'.heap.size)(q2:w'.os=w.os)(X:w'.tape=w.tape)(q4:w'.output=w.output):Fr { w:=w,own:=own} (own.fz id) w':=by
 refine Fr.apM (λj U h1=>?_) (λj U b h1 h2=>?_) (λb hb O=>E b hb λY=>O ⟨id,hd,W,Y⟩) V q2 X q4;simp only[Own.fz];by_cases e:j=id
 exact⟨{ U with bs:=[]},by grind,rfl,rfl,rfl⟩;exact⟨U,by grind,.refl _⟩;grind [Own.fz]
theorem Jo(V:Hp F own w h){id:Nat}{hd:Hd}(E:own id=some hd){w':World}(O:Ob)(fr:Fr { w:=w,own:=own} (own.fz id) w')(U:∀ b,b<w.heap.size->b ∉ hd.bs->w'.heap[b]? =w.heap[b]?)
  (hob:aps F (own.fz id) w' { hd with bs:=[]} O):Step F own w (bf h [(id,O)]) (own.fz id) w':=by
 have hl:id<h.length:=V.dom _ _ E;have hat:∀ j,aq (bf h [(id,O)]) j=if id=j then O else aq h j:=λj=>dF ..;have Y:(bf h [(id,O)]).length=h.length:=by show(cF h id O).length=_;rw[cB,if_pos hl]
 refine⟨V.upd fr.apD (λj=>j=id) (by omega) (λj W=>?_) (λj W X h1=>?_) (λj X _=>?_),fr,λj h1 _=>?_⟩;refine⟨by simp[Own.fz,W],by grind,λhd' b h1 h2=>U b (V.lt j hd' b h1 h2) λhm=>W (V.inj j id hd' hd b h1 E h2 hm)⟩;subst X;simp only[Own.fz,if_pos,E,amK,alx]at h1;grind
 simp_all [Own.fz];grind [Own.fz]
variable {l:List k.T}
theorem apm.rs{o b cap:Nat}{cs:Array Value}(hc:l.length<=cap)(X:l.length<=aK)(V:¬df F own b)(U:w.heap[b]? =some (.cells cs ty (0,0)))(O:apm F own w k l o cs):Rel F own w (.rs k l) (.slice (some ⟨b,o,none⟩) l.length cap):=by
 refine .rs (λi j=>cs.getD (o+i*aa k+j) undef) hc X (λi x hi j s E=>⟨V,?_⟩) (λi x hi j s E=>?_);obtain⟨u,W,_⟩:=O i x hi j s E;rw[eE U];simp_all;obtain⟨u,W,Y⟩:=O i x hi j s E;simp_all
theorem NZ(hp:Hp F own w h){i:TypeInfo}(ht:P.underlying t=some (.slice e))(ht2:P.underlying t2=some (.slice e2))(hi:P.info? e=some i)(hz:i.zero=some z)(hzs:z.cells.size=i.size)(hk:i.size=aa k)(hby:1<=i.bytes)
   {id:Nat} {hd:Hd} (Y:own id=some hd) (hrow:ao8 F own w k l hd.v hd.bs) (hfit:(l++l).length*i.bytes<=d9):
  (l++l).length<=aK/\∃ v' w',(Builtin.append_ #[t,t2] ty #[hd.v,hd.v]).run P w=.ok v' w'/\Rel F (own.fz id) w' (.rs k (l++l)) v'/\Step F own w (bf h [(id,.fz k l)]) (own.fz id) w':=by
 have hlen:(l++l).length<=aK:=by
  have:(l++l).length<=(l++l).length*i.bytes:=amB _ hby;grind [d9,aK]
 refine⟨hlen,?_⟩;have h63:(l++l).length<=9223372036854775807:=by grind [aK]
 obtain⟨news,hs⟩:=Jm (P:=P) hrow;have U:=hs.len;have hlen2:=hlen;rw[alA]at hlen2 h63 hfit;have two:∀ (bo:Own) (w':World),apx F own w bo w'->∀ (o:Nat) (cs:Array Value),(∀ (q:Nat) (x:k.T),l[q]? =some x->∀ (j:Nat) (s:SV),(cellsOf k x)[j]? =some s->∃ u,cs[o+q*aa k+j]? =some u/\Rel F own w s u)->
   (∀ (q:Nat) (x:k.T),l[q]? =some x->∀ (j:Nat) (s:SV),(cellsOf k x)[j]? =some s->∃ u,cs[o+l.length*aa k+(q*aa k+j)]? =some u/\Rel F own w s u)->apm F bo w' k (l++l) o cs:=by
  intro bo w' g o cs a1 a2 q x X j s hj;rw[amn]at X;split at X
  obtain⟨u,e1,e2⟩:=a1 q x X j s hj;exact⟨u,e1,e2.mono g⟩;rename_i hlt;obtain⟨u,e1,e2⟩:=a2 (q - l.length) x X j s hj;refine⟨u,?_,e2.mono g⟩;have hqq:o+q*aa k+j=o+l.length*aa k+((q - l.length)*aa k+j):=by
   have:q=l.length+(q - l.length):=by omega
   grind
  simp_all
 rcases hrow with⟨a,hv,rfl,hbs⟩ | ⟨b,o,cap,cs,tyb,hv,hbs,h3,h4,h5,h6,h7⟩;have hnw:news=[]:=alI (by simpa using hs.size);subst hnw;have E:=hs.cells w rfl;rw[hv]at U E;have O:=Ch (P:=P) (ty:=ty) ht ht2 hi (a0:=a) (cap:=0) U (by rw[hk];exact E);rw[<-hv]at O;have fr:=T8 Y (w':=w) (λ_ _ _=>rfl) (alw _) rfl rfl rfl;exact⟨_,w,O,by rw[hv];exact .rs0,Jo hp Y _ fr (λ_ _ _=>rfl) (by show Rel F (own.fz id) w (.rs k []) hd.v;rw[hv];exact .rs0)⟩;have hnb:¬df F (own.fz id) b:=abN hp Y (by simp[hbs]);have E:=hs.cells;rw[hv]at U E;by_cases hroom:l.length+l.length<=cap
 have hfits:o+l.length*aa k+news.length<=cs.size:=by
  rw[hs.size];have:(l.length+l.length)*aa k<=cap*aa k:=alM _ hroom;grind
 obtain⟨cs',w',q1,q2,q3,q4⟩:=jR (P:=P) (b:=b) (o:=o+l.length*aa k) (ty:=tyb) news 0 w cs h3 (by omega) hs.one;have O:=wC (P:=P) (ty:=ty) ht ht2 hi (b:=b) (o:=o) (n:=l.length) (cap:=cap) U (by rw[hk];exact E w rfl) hroom (w':=w') (by grind);rw[<-hv]at O;have V:∀ W,W<w.heap.size->W ∉ hd.bs->w'.heap[W]? =w.heap[W]?:=λW _ hn=>q2.other W λe=>hn (by grind);have fr:=T8 Y V (by rw[q2.size];omega) q2.os q2.tape q2.output;have hat:=two _ _ fr.apD o cs' (λq x X j s hj=>by
   obtain⟨u',e1,e2⟩:=h7 q x X j s hj;refine⟨u',?_,e2⟩;have hjl:j<aa k:=by grind [bE]
   have hlt:=(alz.1 X).1;have:(q+1)*aa k<=l.length*aa k:=alM _ hlt;grind) (λq x X j s hj=>by
   obtain⟨u',e1,e2⟩:=hs.rel q x X j s hj;refine⟨u',?_,e2⟩;have hb:=(alz.1 e1).1;simp_all)
 refine⟨_,w',O,?_,Jo hp Y _ fr V ?_⟩;have:=apm.rs (cap:=cap) (by grind) hlen hnb q2.here hat;grind
 show Rel F (own.fz id) w' (.rs k l) hd.v;rw[hv];exact apm.rs h5 h6 hnb q2.here λq x X=>hat q x (by grind);have O:=tD (P:=P) (ty:=ty) (a0:=some ⟨b,o,none⟩) (n:=l.length) (olds:=news) ht ht2 hi hz (λw1 hw1=>by rw[hk];exact E w1 hw1) U (by rw[hk];exact E) (by omega) h63 hfit;rw[<-hv]at O;have hge:=rH w (l.length+l.length) cap e;let cs2:=news.toArray++news.toArray++Builtin.zeroCells z.cells (grownCap w (l.length+l.length) cap e - (l.length+l.length))
 have V:∀ W,W<w.heap.size->(w.drew.alloc (.cells cs2 e)).heap[W]? =w.heap[W]?:=λW hb'=>qA w.drew _ W hb';have fr:=T8 Y (w':=w.drew.alloc (.cells cs2 e)) (λW hb' _=>V W hb') (by grind) rfl rfl rfl;have hat:=two _ _ fr.apD 0 cs2 (λq x X j s hj=>by
   obtain⟨u',e1,e2⟩:=hs.rel q x X j s hj;grind) (λq x X j s hj=>by
   obtain⟨u',e1,e2⟩:=hs.rel q x X j s hj;refine⟨u',?_,e2⟩;have hb:=(alz.1 e1).1;have hsz:=hs.size;rw[alF,<-hsz];simp only[cs2];simp_all [alS])
 refine⟨_,_,O,?_,Jo hp Y _ fr (λW hb' _=>V W hb') ?_⟩;have:=apm.rs (cap:=grownCap w (l.length+l.length) cap e) (by grind) hlen (abO hp (id:=id) (alw _)) (kC w.drew _) hat;grind
 show Rel F (own.fz id) _ (.rs k l) hd.v;rw[hv];refine apm.rs h5 h6 hnb (by rw[V b (rG h3)];exact h3) λq x X j s hj=>?_;obtain⟨u',e1,e2⟩:=h7 q x X j s hj;exact⟨u',e1,e2.mono fr.apD⟩
theorem N0(hp:Hp F own w h){i:TypeInfo}(ht:P.underlying t=some (.slice e))(ht2:P.underlying t2=some (.slice e2))(hi:P.info? e=some i)(hz:i.zero=some z)(hzs:z.cells.size=i.size)(hk:i.size=aa k)(hby:1<=i.bytes)
   (hm:m≠[]) {a:Option Addr} {u:Value} {olds news:List Value} (W:Src P F own w k l (.slice a l.length l.length) olds) (hs:Src P F own w k m u news) (U:(l++m).length*i.bytes<=d9):
  (l++m).length<=aK/\∃ v' w',(Builtin.append_ #[t,t2] ty #[.slice a l.length l.length,u]).run P w=.ok v' w'/\Rel F own w' (.rs k (l++m)) v'/\Step F own w (bf h []) own w':=by
 have E:(l++m).length<=aK:=by
  have:(l++m).length<=(l++m).length*i.bytes:=amB _ hby;grind [d9,aK]
 refine⟨E,?_⟩;have Y:(l++m).length<=9223372036854775807:=by grind [aK]
 have V:=E;rw[alA]at V Y U;have hm1:0<m.length:=amc.2 hm;have X:=tD (P:=P) (w:=w) (ty:=ty) (a0:=a) (n:=l.length) (olds:=olds) ht ht2 hi hz (λw1 hw1=>by rw[hk];exact W.cells w1 hw1) hs.len (by rw[hk];exact hs.cells) (by omega) Y U;let cs2:=olds.toArray++news.toArray++Builtin.zeroCells z.cells (grownCap w (l.length+m.length) l.length e - (l.length+m.length))
 have O:Below w.heap.size w (w.drew.alloc (.cells cs2 e)):=⟨rfl,rfl,rfl,by show w.heap.size<=(w.heap.push _).size;rw[Array.size_push];omega,λb O=>qA w.drew _ b O⟩;have hge:=rH w (l.length+m.length) l.length e;refine⟨_,_,X,?_,hp.below O,(Fr.refl { w:=w,own:=own}).below O,λ_ h1 _=>h1⟩;have g:apx F own w own (w.drew.alloc (.cells cs2 e)):=((Fr.refl { w:=w,own:=own}).below O).apD;have:=apm.rs (F:=F) (own:=own) (k:=k) (l:=l++m) (cap:=grownCap w (l.length+m.length) l.length e) (by grind) E (λW=>by
  rcases W with hf| ⟨j,hj,e,hm⟩;exact absurd (hp.aoY _ hf) (amw _);exact absurd (hp.lt j hj _ e hm) (amw _)) (kC w.drew (.cells cs2 e)) (o:=0) (λq x hq j s hj=>by
  have o1:=W.size;have o2:=hs.size;have hjl:j<aa k:=by grind [bE]
  rw[amn]at hq;split at hq
  rename_i hlt;obtain⟨u',e1,e2⟩:=W.rel q x hq j s hj;refine⟨u',?_,e2.mono g⟩;have:(q+1)*aa k<=l.length*aa k:=alM _ hlt;have O:=(alz.1 e1).1;rw[alF];simp only[cs2];rw[alS (by simp;omega),alS (by simpa using O)];simpa using e1;rename_i hge;obtain⟨u',e1,e2⟩:=hs.rel (q - l.length) x hq j s hj;refine⟨u',?_,e2.mono g⟩;have O:=(alz.1 e1).1;have hqq:0+q*aa k+j=olds.length+((q - l.length)*aa k+j):=by
   have:q=l.length+(q - l.length):=by omega
   grind
  rw[hqq];simp only[cs2];rw[alS (by simp;omega),amR (by simp)];simpa using e1)
 rw[alA]at this;exact this
def Ci (F:Nat->Prop)(own:Own)(w:World)(h:List Ob)(run:Result Value)(r:OR):Prop:=
 ∃ c a ups s,r=.eff c a ups s/\(c->a/\∃ u bo w',run=.ok u w'/\Rel F bo w' s u/\Step F own w (bf h ups) bo w')
theorem Dk(hp:Hp F own w h){nx:Nat}(hn:apX own h nx){ti ti2 te:TI}(ht:ca P t=some ti)(ht2:ca P t2=some ti2)(hte:ca P ti.elem=some te)(hsl:ti.isSlice=true)(Y:ti2.isSlice=true)
    {u:Value} {bs:List Nat} (W:ao8 F own w k l v bs) {K:List Nat} (hK:∀ id∈K,∃ hd,own id=some hd) (hKb:∀ b∈bs,∃ id∈K,∃ hd,own id=some hd/\b∈hd.bs) (hKo:∀ id∈K,∀ hd,own id=some hd->∀ b∈hd.bs,b∈bs) {U:SV} (X:Rel F own w U u) {r:OR} (E:vZ te nx (K.map λid=>(id,Ob.dead)) h U (.row k l)=r) (hne:r≠ .bad):
  Ci F own w h ((Builtin.append_ #[t,t2] ty #[v,u]).run P w) r:=by
 obtain⟨i,d,z,hi,hd,hz,hq,rfl⟩:=bV ht;obtain⟨i2,d2,z2,hi2,hd2,hz2,hq2,rfl⟩:=bV ht2;obtain⟨ie,de,ze,V,hde,hze,hqe,O⟩:=bV hte;cases d <;>simp[dL]at hsl;cases d2 <;>simp[dL]at Y;rename_i e e2;simp only[dL]at V;simp only[vZ]at E;cases hc:Nat.beq te.size (aa k)&&Nat.beq (sz te.zero) te.size&&Nat.ble 1 te.bytes with
 |false=>grind
 |true=>
  rw[hc]at E;simp only[cond_true]at E;cases hs:ug k h U with
  |none=>rw[hs]at E;exact absurd E.symm hne
  |some m=>
   rw[hs]at E;simp only[TH]at E;subst E;simp only[alt,qC]at hc;have hes:te.size=ie.size:=by rw[O];rfl
   have heb:te.bytes=ie.bytes:=by rw[O];rfl
   have hez:te.zero=svs ze:=by simp_all [dL]
   have c1:=alu hc.1.1;have c2:=alu hc.1.2;have c3:=nbl hc.2;obtain⟨news,hsr⟩:=Jn (P:=P) hp X hs;refine⟨_,_,_,_,rfl,λhfit=>?_⟩;obtain⟨q1,v',hd',w',q2,q3,q4,q5⟩:=Sb (P:=P) (ty:=ty) hp hn hd hd2 V hze (by grind [svs]) (k:=k) (by omega) (by omega) (.inl W) hK hKb hKo hsr (by grind);refine⟨q1,v',_,w',q2,?_,q5⟩;rw[<-q3];exact .os (by simp[Own.move]) (by grind)
theorem X4(hp:Hp F own w h){nx:Nat}(hn:apX own h nx){ti ti2 te:TI}(ht:ca P t=some ti)(ht2:ca P t2=some ti2)(hte:ca P ti.elem=some te)(hsl:ti.isSlice=true)(X:ti2.isSlice=true)
  {l:List SV} {vs:Array Value} (hl:api F own w l vs) {r:OR} (E:mt te nx h l=r) (V:r≠ .bad):Ci F own w h ((Builtin.append_ #[t,t2] ty vs).run P w) r:=by
 have two:∀ (d s:SV),l=[d,s]->∃ vd vu,vs= #[vd,vu]/\Rel F own w d vd/\Rel F own w s vu:=by
  rintro d s rfl;obtain⟨⟨a⟩⟩:=vs;exact absurd hl.1 (by simp);rename_i x xs;cases xs with
  |nil=>exact absurd hl.1 (by simp)
  |cons y ys=>
   cases ys with
   |nil=>exact⟨x,y,rfl,by simpa using hl.2 0 _ rfl,by simpa using hl.2 1 _ rfl⟩
   |cons _ _=>exact absurd hl.1 (by simp)
 have apg:∀ (e e2:TypeId) (ie:TypeInfo) (ze:Value),P.underlying t=some (.slice e)->P.underlying t2=some (.slice e2)->P.info? e=some ie->ie.zero=some ze->te.size=ie.size->te.bytes=ie.bytes->te.zero=svs ze->True:=λ_ _ _ _ _ _ _ _ _ _ _=>trivial;obtain⟨i,d,z,hi,hd,hz,hq,hti⟩:=bV ht;obtain⟨i2,d2,z2,hi2,W,hz2,hq2,hti2⟩:=bV ht2;obtain⟨ie,de,ze,hie,hde,hze,hqe,hte'⟩:=bV hte;have hes:te.size=ie.size:=by rw[hte'];rfl
 have heb:te.bytes=ie.bytes:=by rw[hte'];rfl
 have hez:te.zero=svs ze:=by simp_all [dL]
 have hsle:∃ e,d=.slice e/\P.info? e=some ie:=by
  subst hti;cases d <;>simp[dL]at hsl;grind [dL]
 have hsle2:∃ e,d2=.slice e:=by
  subst hti2;cases d2 <;>simp[dL]at X;grind
 obtain⟨e,rfl,hie'⟩:=hsle;obtain⟨e2,rfl⟩:=hsle2;unfold mt at E;split at E
 ·rename_i id id2;obtain⟨vd,vu,rfl,U,O⟩:=two _ _ rfl;cases hc:Nat.beq te.size 1&&Nat.beq (sz te.zero) 1&&Nat.ble 1 te.bytes&& !(Nat.beq id id2)with
  |false=>grind
  |true=>
   rw[hc]at E;simp only[cond_true]at E;simp only[alt,qC,alL]at hc;have c1:=alu hc.1.1.1;have c2:=alu hc.1.1.2;have c3:=nbl hc.1.2;have hne2:id≠id2:=λe=>by simp_all
   cases ho:aq h id with
   |apg k l=>
    rw[ho]at E;simp only[DM]at E;cases Y:aq h id2 with
    |row k' m'=>
     rw[Y]at E;simp only[TG]at E;cases hcast:zv k k' m' with
     |none=>rw[hcast]at E;exact absurd E.symm V
     |some m=>
      obtain⟨ek,rfl⟩:=su hcast;subst ek;rw[hcast]at E;simp only[DL]at E;subst E;obtain⟨hdd,h1,rfl,h2⟩:=iD U;obtain⟨hd',e0,e1⟩:=hp.at ho rfl;rw[h1]at e0;cases e0;have h2id:∃ W,own id2=some W/\pr W.v=true:=by
       cases O with
       |ls c hz h0 q1 q2=>obtain⟨hd3,q3,q4,q5⟩:=iD (q2 0 _ rfl);grind
      obtain⟨hdd2,h3,h4⟩:=h2id;refine⟨_,_,_,_,rfl,λhfit=>?_⟩;obtain⟨q1,v',hd',w',q2,q3,q4,q5⟩:=D6 (P:=P) (ty:=ty) hp hn hd W hie' hze (by omega) (by grind [svs]) (by omega) h3 Y h4 e1 (.inr ⟨id,hne2,h1,rfl⟩) O (by grind);refine⟨q1,v',_,w',q2,?_,q5⟩;rw[<-q3];exact .os (by simp[Own.move]) (by grind)
    |_=>rw[Y]at E;exact absurd E.symm V
   |_=>rw[ho]at E;exact absurd E.symm V
 ·rename_i id2;obtain⟨vd,vu,rfl,U,O⟩:=two _ _ rfl;cases hc:Nat.beq te.size 1&&Nat.beq (sz te.zero) 1&&Nat.ble 1 te.bytes with
  |false=>grind
  |true=>
   rw[hc]at E;simp only[cond_true]at E;simp only[alt,qC]at hc;have c1:=alu hc.1.1;have c2:=alu hc.1.2;have c3:=nbl hc.2;cases Y:aq h id2 with
   |row k m=>
    rw[Y]at E;simp only[XM,DL]at E;subst E;have:=cK U;subst this;have h2id:∃ W,own id2=some W/\pr W.v=true:=by
     cases O with
     |ls c hz h0 q1 q2=>obtain⟨hd3,q3,q4,q5⟩:=iD (q2 0 _ rfl);grind
    obtain⟨hdd2,h3,h4⟩:=h2id;refine⟨_,_,_,_,rfl,λhfit=>?_⟩;obtain⟨q1,v',hd',w',q2,q3,q4,q5⟩:=D6 (P:=P) (ty:=ty) (l:=[]) (hd:=⟨none,.slice none 0 0,[],[]⟩) hp hn hd W hie' hze (by omega) (by grind [svs]) (by omega) h3 Y h4 (.inl ⟨rfl,rfl,rfl,rfl⟩) (.inl ⟨rfl,rfl⟩) O (by grind);refine⟨q1,v',_,w',q2,?_,q5⟩;rw[<-q3];exact .os (by simp[Own.move]) (by grind)
   |_=>rw[Y]at E;exact absurd E.symm V
 rename_i id id2;obtain⟨vd,vu,rfl,U,O⟩:=two _ _ rfl;obtain⟨hdd,h1,rfl,h2⟩:=iD U;cases heq:Nat.beq id id2 with
 |true=>
  have aqb:=alu heq;subst aqb;rw[heq]at E;simp only[cond_true]at E;obtain⟨hdd',h1',rfl,_⟩:=iD O;rw[h1]at h1';cases h1';cases ho:aq h id with
  |row k l=>
   rw[ho]at E;simp only[XN]at E;obtain⟨hd',e0,e1⟩:=hp.at ho rfl;rw[h1]at e0;cases e0;cases hc:Nat.beq te.size (aa k)&&Nat.beq (sz te.zero) te.size&&Nat.ble 1 te.bytes with
   |false=>grind
   |true=>
    rw[hc]at E;simp only[cond_true]at E;subst E;simp only[alt,qC]at hc;have c1:=alu hc.1.1;have c2:=alu hc.1.2;have c3:=nbl hc.2;refine⟨_,_,_,_,rfl,λhfit=>?_⟩;obtain⟨q1,v',w',q2,q3,q4⟩:=NZ (P:=P) (ty:=ty) hp hd W hie' hze (by grind [svs]) (k:=k) (by omega) (by omega) h1 e1 (by grind);grind
  |_=>rw[ho]at E;simp[XN]at E;exact absurd E.symm V
 |false=>
  rw[heq]at E;simp only[cond_false]at E;cases ho:aq h id with
  |row k l=>
   rw[ho]at E;obtain⟨hd',e0,e1⟩:=hp.at ho rfl;rw[h1]at e0;cases e0;exact Dk (P:=P) (K:=[id]) hp hn ht ht2 hte hsl X e1 (by grind) (λb hb=>⟨id,by simp,hdd,h1,hb⟩) (λid' hid hd' hh b hb=>by grind) O E V
  |_=>rw[ho]at E;simp[vZ]at E;exact absurd E.symm V
 rename_i id src _ _;obtain⟨vd,vu,rfl,U,O⟩:=two _ _ rfl;obtain⟨hdd,h1,rfl,h2⟩:=iD U;cases ho:aq h id with
 |row k l=>
  rw[ho]at E;obtain⟨hd',e0,e1⟩:=hp.at ho rfl;rw[h1]at e0;cases e0;exact Dk (P:=P) (K:=[id]) hp hn ht ht2 hte hsl X e1 (by grind) (λb hb=>⟨id,by simp,hdd,h1,hb⟩) (λid' hid hd' hh b hb=>by grind) O E V
 |_=>rw[ho]at E;simp[vZ]at E;exact absurd E.symm V
 obtain⟨vd,vu,rfl,U,O⟩:=two _ _ rfl;have:=cK U;subst this;unfold uU at E;split at E
 rename_i k _;exact Dk (P:=P) (K:=[]) (l:=[]) (bs:=[]) hp hn ht ht2 hte hsl X (.inl ⟨none,rfl,rfl,rfl⟩) (by simp) (λb hb=>by cases hb) (λid hid=>by cases hid) O E V;grind
 obtain⟨vd,vu,rfl,U,O⟩:=two _ _ rfl;cases U with
 |e0=>
  unfold uU at E;split at E
  rename_i k _;exact Dk (P:=P) (K:=[]) (l:=[]) (bs:=[]) hp hn ht ht2 hte hsl X (.inl ⟨_,rfl,rfl,rfl⟩) (by simp) (λb hb=>by cases hb) (λid hid=>by cases hid) O E V;grind
 rename_i k l src;obtain⟨vd,vu,rfl,U,O⟩:=two _ _ rfl;cases U with
 |rc U=>
  unfold XO at E;cases hc:Nat.beq te.size (aa k)&&Nat.beq (sz te.zero) te.size&&Nat.ble 1 te.bytes with
  |false=>grind
  |true=>
   rw[hc]at E;simp only[cond_true]at E;cases hs:ug k h src with
   |none=>rw[hs]at E;exact absurd E.symm V
   |some m=>
    rw[hs]at E;simp only[TJ]at E;cases m with
    |nil=>exact absurd E.symm V
    |cons x m=>
     simp only[NH,cond_true]at E;subst E;simp only[alt,qC]at hc;have c1:=alu hc.1.1;have c2:=alu hc.1.2;have c3:=nbl hc.2;obtain⟨news,hsr⟩:=Jn (P:=P) hp O hs;obtain⟨olds,hol⟩:=Jn (P:=P) hp U (k:=k) (m:=l) (by simp[ug,zv]);refine⟨_,_,_,_,rfl,λhfit=>?_⟩;obtain⟨q1,v',w',q2,q3,q4⟩:=N0 (P:=P) (ty:=ty) hp hd W hie' hze (by grind [svs]) (k:=k) (by omega) (by omega) (by simp) hol hsr (by grind);exact⟨q1,v',own,w',q2,q3,q4⟩
 grind
end
section
variable {P:Program}{F:Nat->Prop}{own:Own}{w:World}
theorem N1:∀ {l m:List SV},uS l m=true->∀ {vs:Array Value},api F own w m vs->api F own w l vs:=by
 have one:∀ {a b:SV} {v:Value},Pt a b=true->Rel F own w b v->Rel F own w a v:=by
  intro a b v h E;unfold Pt at h;split at h
  rename_i k x k' y;simp only[alt]at h;grind [NN]
  simp_all;exact E;have:=cK E;subst this;exact .rs0;have:=cK E;subst this;exact .rm0;exact E;cases h
 intro l m h vs E;have len:∀ {l m:List SV},uS l m=true->l.length=m.length:=by
  intro l;induction l with
  |nil=>grind [uS]
  |cons a l U=>intro m h;cases m with
   |nil=>simp[uS]at h|cons b m=>grind [uS]
 have get:∀ {l m:List SV} (j:Nat) (s:SV),uS l m=true->l[j]? =some s->∃ b,m[j]? =some b/\Pt s b=true:=by
  intro l;induction l with
  |nil=>grind
  |cons a l U=>
   intro m j s h O;cases m with
   |nil=>grind
   |cons b m=>
    grind [uS]
 refine⟨by rw[len h];exact E.1,λj s O=>?_⟩;obtain⟨b,h1,h2⟩:=get j s h O;exact one h2 (E.2 j b h1)
theorem PS {a b:Bool}(h:CE a b=true):a=b:=by cases a <;>cases b <;>simp[CE]at h |-
variable {t:TypeId}{k:Tag}
theorem AZ{i:TypeInfo}(h:yl P t i=some k):DE P t i k=true:=by
 grind [yl]
theorem zH{i:TypeInfo}(h:yl P t i=some k):i.size=aa k/\1<=i.bytes/\kf P t=oi k/\∀ z,i.zero=some z->api F own w (cellsOf k (eC k)) z.cells/\DD z=oi k:=by
 have E:=AZ h;simp only[DE,alt]at E;refine⟨alu E.1.1.1.2,nbl E.1.1.2,PS E.2,λz O=>?_⟩;grind [N1,xq,PS]
theorem A0(h:K6 P t=some k):∃ i,P.info? t=some i/\yl P t i=some k:=by
 grind [K6]
theorem yR {d:Int}{o:Option SV}{v:Option Value}(O:∀ s,o=some s->∃ u,v=some u/\Rel F own w s u)(E:o=none->v=none){n:Int}(h:bnd d o=some n):(v=none/\n=d)\/∃ k,v=some (.int k n):=by
 unfold bnd at h;grind [cK]
theorem mU {k:IntKind}{n:Int}{y:Nat}{E:BoundsCode}(h:0<=n/\n<=(y:Int)):(Instr.sliceBound (.int k n) y E).run P w=.ok n.toNat w:=by
 simp_all [Instr.sliceBound,tB]
theorem jS {len cap:Nat}{lo hi:Option Value}{a b:Int}(E:(lo=none/\a=0)\/∃ k,lo=some (.int k a))(O:(hi=none/\b=(len:Int))\/∃ k,hi=some (.int k b))(h:0<=a/\a<=b/\b<=(len:Int))(hc:len<=cap):
  (Instr.sliceBounds true len cap lo hi none).run P w=.ok (a.toNat,b.toNat,cap) w:=by
 rcases O with⟨rfl,rfl⟩ | ⟨k2,rfl⟩ <;>rcases E with⟨rfl,rfl⟩ | ⟨U,rfl⟩;simp[Instr.sliceBounds];simp[Instr.sliceBounds,mU (P:=P) (w:=w) (k:=U) (n:=a) (y:=len) ⟨h.1,h.2.1⟩];simp[Instr.sliceBounds,mU (P:=P) (w:=w) (k:=k2) (n:=b) (y:=cap) ⟨by omega,by omega⟩];simp[Instr.sliceBounds,mU (P:=P) (w:=w) (k:=k2) (n:=b) (y:=cap) ⟨by omega,by omega⟩,mU (P:=P) (w:=w) (k:=U) (n:=a) (y:=b.toNat) ⟨h.1,by omega⟩]
variable {h:List Ob}{ti te:TI}{v:Value}{lo hi:Option SV}{X:Option Value}{r:OR}
theorem Sc(hp:Hp F own w h){nx:Nat}(hn:apX own h nx)(ht:ca P t=some ti)(hte:ca P ti.elem=some te){s:SV}(hr:Rel F own w s v){vlo:Option Value}
  (h1:∀ s,lo=some s->∃ u,vlo=some u/\Rel F own w s u) (h1':lo=none->vlo=none) (h2:∀ s,hi=some s->∃ u,X=some u/\Rel F own w s u) (h2':hi=none->X=none)  {vq:Bool} (hvq:vq=true->hi=none) (O:mL ti te.size nx h lo hi vq s=r) (hne:r≠ .bad):
  (∃ c s',r=.chk c s'/\(c->∃ u,(Instr.sliceAt t v vlo X none).run P w=.ok u w/\Rel F own w s' u))\/Ci F own w h ((Instr.sliceAt t v vlo X none).run P w) r:=by
 obtain⟨i,d,z,hi',hd,hz,hq,rfl⟩:=bV ht;obtain⟨ie,de,ze,hie,hde,hze,hqe,hte'⟩:=bV hte;have hes:te.size=ie.size:=by rw[hte'];rfl
 have slice:(dL P t i d).isSlice=true->∃ e,d=.slice e/\P.info? e=some ie:=λhs=>by
  cases d <;>simp[dL]at hs;grind [dL]
 cases hr with
 |rs cf q0 q0' q1 q2=>
  rename_i k l b o cap;left;simp only[mL]at O;cases W:(dL P t i d).isSlice&&Nat.beq te.size (aa k)with
  |false=>grind
  |true=>
   rw[W]at O;simp only[cond_true]at O;simp only[alt]at W;obtain⟨e,rfl,V⟩:=slice W.1;have hsz:=alu W.2;unfold XR at O;split at O
   rename_i a c ha hc;refine⟨_,_,O.symm,λE=>?_⟩;have b1:=yR h1 h1' ha;have b2:=yR h2 h2' hc;have U:=jS (P:=P) (w:=w) b1 b2 E q0;have hlen:((l.take c.toNat).drop a.toNat).length=c.toNat - a.toNat:=by simp;omega
   refine⟨.slice (if cap=a.toNat then some ⟨b,o,none⟩else some ⟨b,o+a.toNat*ie.size,none⟩) (c.toNat - a.toNat) (cap - a.toNat),?_,?_⟩;simp only[Instr.sliceAt,Instr.slice,alV,run_underlying hd,alK,U,dM V,amQ,amK,nD];rw[<-hlen];by_cases hca:cap=a.toNat
   have:(l.take c.toNat).drop a.toNat=[]:=alI (by omega);rw[this];exact .rs0;rw[if_neg hca];refine Rel.rs (F:=F) (own:=own) (w:=w) (λi j=>cf (a.toNat+i) j) (by omega) (by omega) (λi x hx j s hj=>?_) (λi x hx j s hj=>?_);simp_all <;>grind;grind
   grind
 |rs0=>
  rename_i k a0 cap;left;simp only[mL]at O;cases W:(dL P t i d).isSlice&&Nat.beq te.size (aa k)with
  |false=>grind
  |true=>
   rw[W]at O;simp only[cond_true]at O;simp only[alt]at W;obtain⟨e,rfl,V⟩:=slice W.1;unfold XR at O;split at O
   rename_i a c ha hc;refine⟨_,_,O.symm,λE=>?_⟩;have b1:=yR h1 h1' ha;have b2:=yR h2 h2' hc;have U:=jS (P:=P) (w:=w) (cap:=cap) b1 b2 E (al4 _);simp only[alJ,anX]at E;have ea:a=0:=by omega
   have ec:c=0:=by omega
   subst ea;subst ec;refine⟨_,by
    simp only[Instr.sliceAt,Instr.slice,alV,run_underlying hd,alK];simp only[alJ,anm]at U;simp only[U,alK,alV,dM V,amQ];rfl,?_⟩
   simp only[List.take_nil,List.drop_nil];exact .rs0;grind
 |os g1 g2=>
  rename_i id hdd;simp only[mL]at O;cases W:(dL P t i d).isSlice with
  |false=>grind
  |true=>
   rw[W]at O;simp only[cond_true]at O;obtain⟨e,rfl,V⟩:=slice W;cases vq with
   |true=>
    left;simp only[cond_true]at O;cases ho:aq h id with
    |row k l=>
     rw[ho]at O;simp only[TL]at O;cases hb2:Nat.beq te.size (aa k)with
     |false=>grind
     |true=>
      rw[hb2]at O;simp only[cond_true]at O;unfold TK at O;split at O
      rename_i a ha;refine⟨_,_,O.symm,λE=>?_⟩;obtain⟨hd',e0,e1⟩:=hp.at ho rfl;rw[g1]at e0;cases e0;have b1:=yR h1 h1' ha;have b2:(X=none/\(l.length:Int)=(l.length:Int))\/∃ k,X=some (.int k (l.length:Int)):=.inl ⟨h2' (hvq rfl),rfl⟩;have hcnd':0<=a/\a<=(l.length:Int)/\(l.length:Int)<=(l.length:Int):=⟨E.1,E.2,al5 _⟩;rcases e1 with⟨a0,m1,rfl,m3⟩ | ⟨b,o,cap,cs,ty,m1,m2,m3,m4,m5,m6,m7⟩;simp only[alJ,anX]at E;have ea:a=0:=by omega
      subst ea;have U:=jS (P:=P) (w:=w) (cap:=0) b1 b2 hcnd' (al4 _);simp only[alJ,anm,anX]at U;refine⟨.slice a0 0 0,?_,Rel.vw (lo:=0) (hi:=(([]:List k.T).length:Int)) (cap:=0) (a:=a0) g1 (.inl (by simp)) (by simp)⟩;simp_all [Instr.sliceAt,Instr.slice,run_underlying,dM];have U:=jS (P:=P) (w:=w) b1 b2 hcnd' m5;refine⟨.slice (if cap=a.toNat then some ⟨b,o,none⟩else some ⟨b,o+a.toNat*ie.size,none⟩) ((l.length:Int).toNat - a.toNat) (cap - a.toNat),?_,Rel.vw g1 ?_ (by omega)⟩;rw[m1];simp only[Instr.sliceAt,Instr.slice,alV,run_underlying hd,alK,U,dM V,amQ,amK,nD];by_cases hca:cap=a.toNat
      exact .inl (by omega);rw[if_neg hca];exact .inr ⟨b,o,_,cap,m1,by omega,by rw[hes]⟩;grind
    |_=>rw[ho]at O;exact absurd O.symm hne
   |false=>
   right;simp only[cond_false]at O;cases ho:aq h id with
   |row k l=>
    rw[ho]at O;simp only[XT]at O;cases hb2:Nat.beq te.size (aa k)with
    |false=>grind
    |true=>
     rw[hb2]at O;simp only[cond_true]at O;have hsz:=alu hb2;unfold XS at O;split at O
     rename_i a c ha hc;subst O;obtain⟨hd',e0,e1⟩:=hp.at ho rfl;rw[g1]at e0;cases e0;have b1:=yR h1 h1' ha;have b2:=yR h2 h2' hc;refine⟨_,_,_,_,rfl,λE=>⟨trivial,?_⟩⟩;have hK:∀ id'∈[id],∃ hd,own id'=some hd:=by grind
     have hlen:((l.take c.toNat).drop a.toNat).length=c.toNat - a.toNat:=by simp;omega
     rcases e1 with⟨a0,m1,rfl,m3⟩ | ⟨b,o,cap,cs,ty,m1,m2,m3,m4,m5,m6,m7⟩;simp only[alJ,anX]at E;have ea:a=0:=by omega
     have ec:c=0:=by omega
     subst ea;subst ec;have U:=jS (P:=P) (w:=w) (cap:=0) b1 b2 E (al4 _);simp only[alJ,anm]at U;refine⟨.slice a0 0 0,_,w,?_,?_,kP hp hn [id] hK ⟨none,.slice a0 0 0,[],[]⟩ _ (λb W=>by simp at W) (λ_ _ _=>rfl) (alw _) rfl rfl rfl λbo g=>.inl ⟨a0,rfl,rfl,rfl⟩⟩;simp_all [Instr.sliceAt,Instr.slice,run_underlying,dM];have:=Rel.os (F:=F) (own:=own.move [id] nx ⟨none,.slice a0 0 0,[],[]⟩) (w:=w) (id:=nx) (hd:=⟨none,.slice a0 0 0,[],[]⟩) (by simp[Own.move]) rfl;exact this;have U:=jS (P:=P) (w:=w) b1 b2 E m5;have Y:(Instr.sliceAt t hdd.v vlo X none).run P w=.ok (.slice (if cap=a.toNat then some ⟨b,o,none⟩else some ⟨b,o+a.toNat*ie.size,none⟩) (c.toNat - a.toNat) (cap - a.toNat)) w:=by
      rw[m1];simp only[Instr.sliceAt,Instr.slice,alV,run_underlying hd,alK,U,dM V,amQ,amK,nD]
     by_cases hca:cap=a.toNat
     have aqY:(l.take c.toNat).drop a.toNat=[]:=alI (by omega);rw[if_pos hca,show c.toNat - a.toNat=0 by omega,show cap - a.toNat=0 by omega]at Y;refine⟨_,_,w,Y,?_,kP hp hn [id] hK ⟨none,.slice (some ⟨b,o,none⟩) 0 0,[],[]⟩ _ (λb W=>by simp at W) (λ_ _ _=>rfl) (alw _) rfl rfl rfl λbo g=>.inl ⟨_,rfl,aqY,rfl⟩⟩;exact Rel.os (F:=F) (own:=own.move [id] nx ⟨none,.slice (some ⟨b,o,none⟩) 0 0,[],[]⟩) (w:=w) (id:=nx) (hd:=⟨none,.slice (some ⟨b,o,none⟩) 0 0,[],[]⟩) (by simp[Own.move]) rfl;rw[if_neg hca,<-hlen]at Y;refine⟨_,_,w,Y,Rel.os (F:=F) (own:=own.move [id] nx ⟨none,.slice (some ⟨b,o+a.toNat*ie.size,none⟩) ((l.take c.toNat).drop a.toNat).length (cap - a.toNat),[],[b]⟩) (w:=w) (id:=nx) (hd:=⟨none,.slice (some ⟨b,o+a.toNat*ie.size,none⟩) ((l.take c.toNat).drop a.toNat).length (cap - a.toNat),[],[b]⟩) (by simp[Own.move]) rfl,kP hp hn [id] hK _ _ (λb' hb'=>by grind) (λ_ _ _=>rfl) (alw _) rfl rfl rfl λbo g=>.inr ⟨b,o+a.toNat*ie.size,cap - a.toNat,cs,ty,rfl,rfl,m3,?_,by omega,by omega,λi x hx j s hj=>?_⟩⟩;rw[<-hes,hsz];have:cap*aa k=a.toNat*aa k+(cap - a.toNat)*aa k:=by rw[<-aos];grind
     omega;obtain⟨e1,e2⟩:=yp hx;obtain⟨u,n1,n2⟩:=m7 _ x e1 j s hj;refine⟨u,?_,n2.mono g⟩;grind
     grind
   |_=>rw[ho]at O;exact absurd O.symm hne
 |_=>simp only[mL]at O;exact absurd O.symm hne
theorem T9(ht:ca P t=some ti)(hte:ca P ti.elem=some te){s sm:SV}{vm:Value}(hr:Rel F own w s v)(hm:Rel F own w sm vm){W:Option Value}
  (U:lo=none->W=none) (h2:∀ s,hi=some s->∃ u,X=some u/\Rel F own w s u)  (E:DN ti lo hi sm s=r) (hne:r≠ .bad):
  ∃ c s',(r=.val s'/\c\/r=.chk c s')/\(c->∃ u,(Instr.sliceAt t v W X (some vm)).run P w=.ok u w/\Rel F own w s' u):=by
 obtain⟨i,d,z,hi',hd,hz,hq,rfl⟩:=bV ht;obtain⟨ie,de,ze,hie,hde,hze,hqe,hte'⟩:=bV hte;have slice:(dL P t i d).isSlice=true->∃ e,d=.slice e/\P.info? e=some ie:=λhs=>by
  cases d <;>simp[dL]at hs;grind [dL]
 unfold DN at E;split at E
 ·rename_i k l;unfold aav at E;split at E
  ·rename_i a b;cases O:(dL P t i d).isSlice with
   |false=>grind
   |true=>
    rw[O]at E;simp only[cond_true]at E;obtain⟨e,rfl,V⟩:=slice O;obtain⟨u,rfl,e3⟩:=h2 _ rfl;obtain rfl:=U rfl;obtain rfl:=cK hm;obtain rfl:=cK e3;refine⟨_,_,.inr E.symm,λ⟨ha,O⟩ =>?_⟩;subst ha;subst O;have Y:∃ a cap,v=.slice a l.length cap/\l.length<=cap/\Rel F own w (.rs k l) (.slice a l.length l.length):=by
     cases hr with
     |rs c q0 q0' q1 q2=>exact⟨_,_,rfl,q0,.rs c (alw _) q0' q1 q2⟩|rs0=>exact⟨_,_,rfl,al4 _,.rs0⟩
    obtain⟨a,cap,rfl,hcl,apR⟩:=Y;have hbd:(Instr.sliceBounds true l.length cap none (some (.int .i64 l.length)) (some (.int .i64 l.length))).run P w=.ok (0,l.length,l.length) w:=by
     simp_all [Instr.sliceBounds,mU]
    refine⟨.slice a l.length l.length,?_,.rc apR⟩;simp_all [Instr.sliceAt,Instr.slice,run_underlying,dM,Addr.add]
  grind
 unfold aau at E;split at E
 cases O:(dL P t i d).isSlice with
 |false=>grind
 |true=>
  rw[O]at E;simp only[cond_true]at E;obtain⟨e,rfl,V⟩:=slice O;obtain⟨u,rfl,e3⟩:=h2 _ rfl;obtain rfl:=U rfl;obtain rfl:=cK hr;obtain rfl:=cK hm;obtain rfl:=cK e3;refine⟨True,_,.inl ⟨E.symm,trivial⟩,λ_=>⟨.slice none 0 0,?_,.v _⟩⟩;have hbd:(Instr.sliceBounds true 0 0 none (some (.int .i64 0)) (some (.int .i64 0))).run P w=.ok (0,0,0) w:=by
   rfl
  simp_all [Instr.sliceAt,Instr.slice,run_underlying,dM]
 grind
theorem abP(hp:Hp F own w h){nx:Nat}(hn:apX own h nx)(ht:ca P t=some ti)(hte:ca P ti.elem=some te)(hsl:ti.isSlice=true){sl sc:SV}{vl vc:Value}(hrl:Rel F own w sl vl)(hrc:Rel F own w sc vc)(he:mkS nx te sl sc=r)(hne:r≠ .bad):
  Ci F own w h ((Instr.makeSlice t vl vc).run P w) r:=by
 obtain⟨i,d,z,hi,hd,hz,hq,rfl⟩:=bV ht;obtain⟨X,de,ze,Y,hde,V,hqe,O⟩:=bV hte;cases d <;>simp[dL]at hsl;rename_i e;simp only[dL]at Y;unfold mkS at he;split at he
 rename_i n c;have el:=cK hrl;have ec:=cK hrc;subst el;subst ec;unfold mkT at he;split at he
 rename_i k E;subst he;have U:yl P e X=some k:=by rw[O]at E;exact E
 obtain⟨t1,t2,t3,t4⟩:=zH (F:=F) (own:=own) (w:=w) U;have heb:te.bytes=X.bytes:=by rw[O];rfl
 refine⟨_,_,_,_,rfl,λ⟨hc1,hc2,hc3⟩ =>?_⟩;subst hc1;rw[heb]at hc3;have hnb:n<=n*(X.bytes:Int):=by
  have:n*1<=n*(X.bytes:Int):=ana (by omega) hc2;omega
 have hnm:n<=(aK:Int):=by grind [d9,aK]
 refine⟨hnm,?_⟩;have hrun:=run_make (P:=P) w t e X ze hd Y V .i64 .i64 n n hc2 (al5 _) (by grind [d9]) (by grind [aK]);have W:=(t4 ze V).1;have hzs:ze.cells.size=aa k:=by rw[W.1,bE]
 refine⟨_,_,_,hrun,Rel.os (F:=F) (id:=nx) (hd:=⟨none,.slice (some ⟨w.heap.size,0,none⟩) n.toNat n.toNat,[],[w.heap.size]⟩) (Own.apj _ _ _) rfl,ui hp hn (w1:=w) ⟨rfl,rfl,rfl,rfl⟩ _ _ _ rfl λbo g=>.inr ⟨w.heap.size,0,n.toNat,_,e,by simp,rfl,kC _ _,?_,by simp,by simp;omega,λq x hx j s hj=>?_⟩⟩;simp_all [size_madeCells];have hxd:x=eC k:=by
  grind
 subst hxd;have hjl:j<aa k:=by grind [bE]
 have hql:q<n.toNat:=by grind
 have hlt:q*aa k+j<n.toNat*aa k:=by
  have:(q+1)*aa k<=n.toNat*aa k:=alM _ hql;grind
 refine⟨ze.cells.getD j undef,?_,(W.2 j s hj).mono g⟩;simp_all [an_,madeCells];grind
 grind
theorem X5(hp:Hp F own w h){ty:TypeId}(ht:ca P t=some ti){l:List SV}{vs:Array Value}(hl:api F own w l vs)(E:tU ti h l=r)(X:r≠ .bad):
  ∃ (n:Nat),((∃ c,r=.asm c (.i n)/\c)\/r=.val (.i n))/\(Builtin.len_ #[t] ty vs).run P w=.ok (.int .i64 n) w:=by
 obtain⟨i,d,z,hi,hd,hz,hq,rfl⟩:=bV ht;have hsl:(dL P t i d).isSlice=true->∀ (a0:Option Addr) (n cap:Nat),(Builtin.len_ #[t] ty #[.slice a0 n cap]).run P w=.ok (.int .i64 n) w:=by
  intro hs a0 n cap;cases d <;>simp[dL]at hs;simp[Builtin.len_,run_underlying hd,goInt]
 have one:∀ s,l=[s]->∃ v,vs= #[v]/\Rel F own w s v:=by
  rintro s rfl;obtain⟨⟨a⟩⟩:=vs;exact absurd hl.1 (by simp);rename_i x xs;cases xs with
  |nil=>exact⟨x,rfl,by simpa using hl.2 0 _ rfl⟩
  |cons _ _=>exact absurd hl.1 (by simp)
 unfold tU at E;split at E
 rename_i k m;obtain⟨v,rfl,U⟩:=one _ rfl;cases O:(dL P t i d).isSlice with
 |false=>grind
 |true=>
  rw[O]at E;simp only[cond_true]at E;subst E;cases U <;>grind
 obtain⟨v,rfl,U⟩:=one _ rfl;cases O:(dL P t i d).isSlice with
 |false=>grind
 |true=>
  rw[O]at E;simp only[cond_true]at E;grind [cK]
 obtain⟨v,rfl,U⟩:=one _ rfl;cases O:(dL P t i d).isSlice with
 |false=>grind
 |true=>
  rw[O]at E;simp only[cond_true]at E;subst E;cases U <;>grind
 obtain⟨v,rfl,U⟩:=one _ rfl;cases O:(dL P t i d).isSlice with
 |false=>grind
 |true=>
  rw[O]at E;simp only[cond_true]at E;subst E;cases U with
  |rc U=>
   refine⟨_,.inl ⟨_,rfl,?_⟩,hsl O _ _ _⟩;generalize hvv:Value.slice _ _ _=vv at U;cases U <;>grind
 rename_i id;obtain⟨v,rfl,U⟩:=one _ rfl;cases O:(dL P t i d).isSlice with
 |false=>
  rw[O]at E;simp only[cond_false]at E;obtain⟨hdd,h1,rfl,_⟩:=iD U;cases V:aq h id with
  |mp kk vk m apJ=>
    rw[V]at E;simp only[abA]at E;cases d with
    |map a b0=>
     cases hk:(dL P t i (.map a b0)).mkt.isSome&&noE apJ with
     |false=>grind
     |true=>
      rw[hk]at E;simp only[cond_true]at E;subst E;rw[alt]at hk;obtain⟨hd',W,b,es,clk,m1,m2,Y,m4,_⟩:=hp.at V rfl;rw[h1]at W;cases W;rw[kg hk.2]at m4;have hg:(getObj b).run P w=.ok (.map es clk) w:=by simp[getObj,Sem.run,Y]
      have hn:es.size=m.length:=m4.1;refine⟨m.length,.inr rfl,?_⟩;simp_all [Builtin.len_,run_underlying,goInt]
    |_=>exact absurd E.symm X
  |_=>rw[V]at E;exact absurd E.symm X
 |true=>
  rw[O]at E;simp only[cond_true]at E;obtain⟨hdd,h1,rfl,_⟩:=iD U;cases V:aq h id with
  |row k m=>
   rw[V]at E;simp only[XL]at E;subst E;obtain⟨hd',W,e1⟩:=hp.at V rfl;rw[h1]at W;cases W;rcases e1 with⟨a0,m1,rfl,Y⟩ | ⟨b,o,cap,cs,ty,m1,m2,Y,m4,m5,m6,m7⟩ <;>grind
  |apg k m=>
   rw[V]at E;simp only[XL]at E;subst E;obtain⟨hd',W,e1⟩:=hp.at V rfl;rw[h1]at W;cases W;rcases e1 with⟨m1,rfl,Y⟩ | ⟨b,o,cap,cs,ty,bs,m1,m2,Y,m4,m5,m6,m7,m8,m9⟩ <;>grind
  |_=>rw[V]at E;exact absurd E.symm X
 rename_i id q;obtain⟨v,rfl,U⟩:=one _ rfl;cases O:(dL P t i d).isSlice with
 |false=>grind
 |true=>
  rw[O]at E;simp only[cond_true]at E;cases V:aq h id with
  |apg k m=>
   rw[V]at E;simp only[abz]at E;subst E;obtain⟨hd',W,e1⟩:=hp.at V rfl;cases U with
   |gr g1 g2 g3=>
    rw[g1]at W;cases W;rcases e1 with⟨_,_,m1,_⟩ | ⟨b,o,cap,cs,ty,bs,m1,m2,Y,m4,m5,m6,m7,m8,m9⟩;grind
    obtain⟨b1,k1,k2,k3,k4⟩:=m9.get g2;rcases k3 with⟨a0,n1,n2,_⟩ | ⟨b2,o2,cap2,cs2,ty2,n1,n2,n3,n4,n5,n6,n7⟩ <;>grind
  |_=>rw[V]at E;exact absurd E.symm X
 rename_i s m;obtain⟨v,rfl,U⟩:=one _ rfl;cases O:(dL P t i d).isSlice&&Nat.ble 1 s with
 |false=>grind
 |true=>
  rw[O]at E;simp only[cond_true]at E;subst E;simp only[alt]at O;have hs1:=nbl O.2;cases U with
  |ls c qz q0 q1 q2=>
   rw[qC,<-qz,Nat.mul_div_cancel _ hs1];exact⟨_,.inr rfl,hsl O.1 _ _ _⟩
 grind
end
section
variable {κ υ:Type}[DecidableEq κ]
def oh:List (κ×υ)->κ->Option Nat
 | [],_=>none|(a,_)::r,x=>if x=a then some 0 else(oh r x).map (· +1)
theorem um {x:κ}:∀ {l:List (κ×υ)},oh l x=none->iC l x=none/\(∀ y,tg l x y=l++[(x,y)])/\Nw l x=l.length
 | [],_=>⟨rfl,λ_=>rfl,rfl⟩
 |(a,b)::r,h=>by
  simp only[oh]at h;split at h
  cases h;rename_i E;have h':oh r x=none:=by simp_all
  obtain⟨h1,h2,O⟩:=um h';grind [iC,tg,Nw]
theorem rX {x:κ}:∀ {l:List (κ×υ)} {i:Nat},oh l x=some i->∃ y,l[i]? =some (x,y)/\iC l x=some y/\(∀ z,tg l x z=l.set i (x,z))/\Nw l x=i
 | [],i,h=>by simp[oh]at h
 |(a,b)::r,i,h=>by
  simp only[oh]at h;split at h
  rename_i U;simp at h;subst h;simp_all [iC,tg,Nw];rename_i O;cases E:oh r x with
  |none=>grind
  |some j=>
   rw[E]at h;simp only[amK,alx]at h;subst h;obtain⟨y,h1,h2,V,W⟩:=rX E;grind [iC,tg,Nw]
end
section
variable {P:Program}{F:Nat->Prop}{own:Own}{w:World}
theorem Jp (a b:ByteArray):(a==b)=true↔a=b:=by
 obtain⟨x⟩:=a;obtain⟨y⟩:=b;show(x==y)=true↔_;simp
theorem u5 (k:Tag)(x:k.T):ub (dN k) (cellsOf k x)=true:=by
 cases k <;>first|rfl|(cases x <;>rfl)
theorem D7:∀ {a b:List Nat},DF a b=true->a=b
 | [],[],_=>rfl
 |x::a,y::b,h=>by simp only[DF,alt]at h;rw[alu h.1,D7 h.2]
 | [],_::_,h=>by simp[DF]at h
 |_::_,[],h=>by simp[DF]at h
theorem Ls:∀ {ks:List Kd} {l m:List SV},ub ks l=true->ub ks m=true->(∀ c∈ks.map jk,c≠0)->∃ b,eqL (ks.map jk) l m=some b/\(b=true↔l=m)
 | [],l,m,h1,h2,_=>by
  have Y:=ul h1;have e2:=ul h2;subst Y;subst e2;exact⟨true,rfl,by simp⟩
 |k::ks,l,m,h1,h2,hc=>by
  obtain⟨x,r,rfl,W,f2⟩:=pu h1;obtain⟨y,s,rfl,O,g2⟩:=pu h2;obtain⟨b,Y,e2⟩:=Ls f2 g2 (λc X=>hc c (by simp[X]));have V:=hc (jk k) (by simp);have:∃ U,eqV (jk k) x y=some U/\(U=true↔x=y):=by
   cases k with
   |s=>
    have E:=HW W;have hy:=HW O;rw[<-E,<-hy];refine⟨toS x==toS y,by rfl,by simp[Jp]⟩
   |b=>
    have E:=HX W;have hy:=HX O;rw[<-E,<-hy];refine⟨toB x==toB y,by rfl,by simp⟩
   |n k=>
    have E:=HY W;have hy:=HY O;rw[<-E,<-hy];refine⟨toI x==toI y,by simp[eqV,jk],by simp⟩
   |r k=>simp[jk]at V|m a b=>simp[jk]at V|f=>simp[jk]at V
  obtain⟨U,e3,e4⟩:=this;simp_all [eqL,yJ]
variable {t:TypeId}{k:Tag}
theorem A2(h:K7 P t=some k):∃ i d,P.info? t=some i/\yl P t i=some k/\P.underlying t=some d/\kf P t=oi k/\
  ((kf P t=true/\(dN k).map jk=nL P t d/\nL P t d≠[])\/(kf P t=false/\(dN k).map jk=[cw (some d)]/\cw (some d)≠0)):=by
 unfold K7 at h;cases V:K6 P t with
 |none=>grind
 |some k'=>
  rw[V]at h;simp only at h;cases E:Nv P t k' with
  |false=>grind
  |true=>
   rw[E]at h;simp only[cond_true,alx]at h;subst h;obtain⟨i,hi,O⟩:=A0 V;unfold Nv at E;split at E
   rename_i d hd;refine⟨i,d,hi,O,hd,(zH (F:=λ_=>False) (own:=dB) (w:=default) O).2.2.1,?_⟩;cases U:kf P t with
   |true=>
    rw[U]at E;simp only[cond_true,alt]at E;have e:=D7 E.1;refine .inl ⟨rfl,e,λW=>?_⟩;simp_all
   |false=>
    rw[U]at E;simp only[cond_false,alt]at E;exact .inr ⟨rfl,D7 E.1,by have:=nbl E.2;omega⟩
   cases E
variable {d:TypeDesc}
theorem D8(c:Nat)(h:c∈nL P t d):c≠0:=by
 unfold nL at h;split at h
 rename_i fs;cases E:!P.stoodInHeld t&& !P.eqGuardType P.depth t&&eqFields P 0 fs.toList with
 |false=>grind
 |true=>
  rw[E]at h;simp only[cond_true]at h;simp only[alt]at E;have:∀ (l:List Field) (n:Nat),eqFields P n l=true->c∈l.map (λf=>cw (P.underlying f.type))->c≠0:=by
   intro l;induction l with
   |nil=>grind
   |cons f l U=>
    intro n O hm;simp only[eqFields,alt]at O;simp only[amh,alD]at hm;rcases hm with rfl|hm;have:=nbl O.1.2;omega;grind
  grind
 rename_i n e;cases E:!P.eqGuardType P.depth t&&Nat.blt 0 (cw (P.underlying e))&&Nat.beq (nU P e) 1 with
 |false=>grind
 |true=>
  rw[E]at h;simp only[cond_true]at h;simp only[alt]at E;have:=List.eq_of_mem_replicate h;have h2:=nbl E.1.2;omega
 cases h
theorem D9 {d:Nat}{e:TypeId}(hc:cw (P.underlying e)≠0):∀ (n m:Nat) (O E:List SV) (xs U:Array Value) (b:Bool),eqL (List.replicate n (cw (P.underlying e))) O E=some b->m+O.length<=xs.size->m+E.length<=U.size->
  (∀ (j:Nat) (s:SV),O[j]? =some s->Rel F own w s (xs.getD (m+j) undef))->(∀ (j:Nat) (s:SV),E[j]? =some s->Rel F own w s (U.getD (m+j) undef))->
  (Op.eqItems (d+1) e 1 xs U (List.range' m n)).run P w=.ok b w
 |0,m,O,E,xs,U,b,h,_,_,_,_=>by
  cases O <;>cases E <;>simp[eqL]at h;simp_all [Op.eqItems]
 |n+1,m,O,E,xs,U,b,h,h1,h2,h3,h4=>by
  cases O with
  |nil=>simp[eqL,anS]at h
  |cons x O=>
   cases E with
   |nil=>simp[eqL,anS]at h
   |cons y E=>
    simp only[anS,eqL]at h;cases W:eqV (cw (P.underlying e)) x y with
    |none=>grind [yJ]
    |some b1=>
     cases V:eqL (List.replicate n (cw (P.underlying e))) O E with
     |none=>grind [yJ]
     |some b2=>
      rw[W,V]at h;simp only[yJ,alx]at h;subst h;simp only[aly]at h1 h2;have Y:=u4 (P:=P) (w:=w) hc (xs:=xs) (n:=m) (by omega);have e2:=u4 (P:=P) (w:=w) hc (xs:=U) (n:=m) (by omega);have X:=NX (P:=P) (h3 0 x rfl) (h4 0 y rfl) W d;simp only[amy]at X;rw[amV];simp only[Op.eqItems,am_,alV,Y,e2,alK,X];cases b1 with
      |false=>simp
      |true=>
       have ih:=D9 (d:=d) hc n (m+1) O E xs U b2 V (by omega) (by omega) (λj s hj=>by have:=h3 (j+1) s (by grind);grind) (λj s hj=>by have:=h4 (j+1) s (by grind);grind);grind
theorem Lt(hd:P.underlying t=some d){Y V:List SV}{xs E:Array Value}(O:api F own w Y xs)(hy:api F own w V E){b:Bool}
  (hc:nL P t d≠[]) (h:eqL (nL P t d) Y V=some b):(Op.equal t (.agg xs) (.agg E)).run P w=.ok b w/\P.eqGuardType P.depth t=false:=by
 cases d with
 |struct fs=>exact Lq hd O hy hc h
 |array n e=>
  simp only[nL]at hc h;cases U:!P.eqGuardType P.depth t&&Nat.blt 0 (cw (P.underlying e))&&Nat.beq (nU P e) 1 with
  |false=>grind
  |true=>
   rw[U]at h;simp only[cond_true]at h;simp only[alt,alL]at U;obtain⟨⟨q1,q2⟩,q3⟩:=U;refine⟨?_,q1⟩;have h1:=alu q3;have hi:∃ i,P.info? e=some i/\i.size=1:=by
    grind [nU]
   obtain⟨i,hi,his⟩:=hi;unfold Op.equal Op.maxDepth;rw[run_equalIn_array (w:=w) 9999 xs E hd hi];have W:P.cellsOf e=1:=by grind [Program.cellsOf]
   rw[W,List.range_eq_range'];exact D9 (d:=9998) (by have:=nbl q2;omega) n 0 Y V xs E b h (by rw[O.1];omega) (by rw[hy.1];omega) (λj s X=>by simpa using O.2 j s X) (λj s X=>by simpa using hy.2 j s X)
 |_=>exact absurd rfl hc
theorem xu{x:k.T}(h:oi k=true):svT k x=.agg (cellsOf k x):=by grind [svT]
theorem tE {l:List SV}{v:Value}(h:Rel F own w (.agg l) v):∃ vs,v=.agg vs/\api F own w l vs:=by
 cases h with|agg E h1=>exact⟨_,rfl,E,h1⟩
theorem zI{x:k.T}(h:oi k=false){s:SV}(E:cellsOf k x=[s]):svT k x=s:=by unfold svT;rw[h,E];rfl
theorem N2{k:Kd}{W O:SV}(hc:jk k=cw (some d))(h0:jk k≠0)(fx:fit k W=true)(fy:fit k O=true){V U:Value}(E:Rel F own w W V)(hy:Rel F own w O U):
  ∃ b,Instr.sameNow d V U=some b/\(b=true↔W=O)/\(b=true->V=U):=by
 cases k with
 |s=>
  have X:=HW fx;have Y:=HW fy;rw[<-X]at E |-;rw[<-Y]at hy |-;have:=cK E;have:=cK hy;subst V;subst U;cases d <;>simp[jk,cw]at hc;exact⟨toS W==toS O,rfl,by simp[Jp],by simp[Jp]⟩
 |b=>
  have X:=HX fx;have Y:=HX fy;rw[<-X]at E |-;rw[<-Y]at hy |-;have:=cK E;have:=cK hy;subst V;subst U;cases d <;>simp[jk,cw]at hc;exact⟨toB W==toB O,rfl,by simp,by simp⟩
 |n k=>
  have X:=HY fx;have Y:=HY fy;rw[<-X]at E |-;rw[<-Y]at hy |-;have:=cK E;have:=cK hy;subst V;subst U;cases d <;>simp[jk,cw]at hc;exact⟨toI W==toI O,by simp[Instr.sameNow],by simp,by simp⟩
 |r k=>simp[jk]at h0|m a b=>simp[jk]at h0|f=>simp[jk]at h0
theorem yq {kk W:Tag}{V:TypeId}{O:Value}{x:kk.T}:∀ (es:List MapEntry) (l:List (kk.T×W.T)) (n:Nat),es.length=l.length->(∀ (i:Nat) (p:kk.T×W.T),l[i]? =some p->∃ e:MapEntry,es[i]? =some e/\∃ b,(Op.equal V O e.key).run P w=.ok b w/\(b=true↔x=p.1))->
  (Instr.findAsking V O es n).run P w=.ok ((oh l x).bind λi=>(es[i]?).map λe=>(n+i,e.val)) w
 | [],[],n,_,_=>by rfl
 | [],_::_,_,h,_=>by simp at h
 |_::_,[],_,h,_=>by simp at h
 |e::es,(a,c)::l,n,hl,h=>by
  obtain⟨e',U,b,e2,e3⟩:=h 0 _ rfl;simp at U;subst U;have X:=yq es l (n+1) (by grind) (λi p hp=>by
   obtain⟨e',q1,Y⟩:=h (i+1) p (by grind);exact⟨e',by grind,Y⟩)
  simp only[Instr.findAsking,alV,e2,alK];cases b with
  |true=>
   simp_all [oh]
  |false=>
   have E:¬x=a:=λhx=>by grind
   simp only[alB,if_false,oh,E];rw[X];cases oh l x <;>grind
theorem D_ {kk V:Tag}{d:TypeDesc}{O:Value}{x:kk.T}:∀ (es:List MapEntry) (l:List (kk.T×V.T)) (n:Nat),es.length=l.length->(∀ (i:Nat) (p:kk.T×V.T),l[i]? =some p->∃ e:MapEntry,es[i]? =some e/\∃ b,Instr.sameNow d O e.key=some b/\(b=true↔x=p.1))->
  Instr.findNow d O es n=some ((oh l x).bind λi=>(es[i]?).map λe=>(n+i,e.val))
 | [],[],n,_,_=>by rfl
 | [],_::_,_,h,_=>by simp at h
 |_::_,[],_,h,_=>by simp at h
 |e::es,(a,c)::l,n,hl,h=>by
  obtain⟨e',U,b,Y,e3⟩:=h 0 _ rfl;simp at U;subst U;have W:=D_ es l (n+1) (by grind) (λi p hp=>by
   obtain⟨e',q1,X⟩:=h (i+1) p (by grind);exact⟨e',by grind,X⟩)
  simp only[Instr.findNow,Y];cases b with
  |true=>
   grind [oh]
  |false=>
   have E:¬x=a:=λhx=>by grind
   simp only[oh,E,if_false];rw[W];cases oh l x <;>grind
theorem A3{c:Nat}(h:(dN k).map jk=[c])(x:k.T):∃ κ s,dN k=[κ]/\jk κ=c/\cellsOf k x=[s]/\fit κ s=true:=by
 have E:=u5 k x;cases U:dN k with
 |nil=>grind
 |cons κ r=>
  rw[U]at h E;simp only[amh,anb,List.map_eq_nil_iff]at h;obtain⟨h1,rfl⟩:=h;obtain⟨s,r,W,V,O⟩:=pu E;have:=ul O;grind
variable {vx:Value}
theorem u6{kk X:Tag}{kt:TypeId}(hk:K7 P kt=some kk){x:kk.T}(Y:Rel F own w (svT kk x) vx){l:List (kk.T×X.T)}{es:Array MapEntry}(hl:es.size=l.length)(V:∀ (i:Nat) (p:kk.T×X.T),l[i]? =some p->∃ e,es[i]? =some e/\Rel F own w (svT kk p.1) e.key):
  (Instr.findKey kt vx es.toList).run P w=.ok ((oh l x).bind λi=>(es[i]?).map λe=>(i,e.val)) w:=by
 obtain⟨i,d,hi,aq3,hd,U,O⟩:=A2 hk;unfold Instr.findKey;simp only[alV,run_underlying hd,alK];rcases O with⟨h1,h2,h3⟩ | ⟨h1,h2,h3⟩;rw[h1]at U;rw[xu U.symm]at Y;obtain⟨xs,rfl,hxs⟩:=tE Y;have E:∀ (i:Nat) (p:kk.T×X.T),l[i]? =some p->∃ e:MapEntry,es.toList[i]? =some e/\∃ b,(Op.equal kt (.agg xs) e.key).run P w=.ok b w/\(b=true↔x=p.1):=λi p hp=>by
  obtain⟨e,e1,W⟩:=V i p hp;rw[xu U.symm]at W;obtain⟨ys,hy1,hy2⟩:=tE W;refine⟨e,by grind,?_⟩;obtain⟨b,q1,q2⟩:=Ls (u5 kk x) (u5 kk p.1) (λc hc=>by rw[h2]at hc;exact D8 c hc);rw[h2]at q1;rw[hy1];exact⟨b,(Lt hd hxs hy2 h3 q1).1,by rw[q2];exact⟨λh=>Cf h,λh=>by rw[h]⟩⟩
 have hfa:=yq (P:=P) (w:=w) es.toList l 0 (by omega) E;simp only[alF,anf]at hfa;have hnow:Instr.findNow d (.agg xs) es.toList 0=none\/es.toList=[]:=by
  cases hel:es.toList with
  |nil=>grind
  |cons e r=>
   left;simp only[Instr.findNow];have:Instr.sameNow d (.agg xs) e.key=none:=by cases d <;>rfl
   rw[this]
 grind [Instr.findNow,Instr.findAsking]
 rw[h1]at U;obtain⟨κ,s,k1,k2,k3,k4⟩:=A3 h2 x;rw[zI U.symm k3]at Y;have E:∀ (i:Nat) (p:kk.T×X.T),l[i]? =some p->∃ e:MapEntry,es.toList[i]? =some e/\∃ b,Instr.sameNow d vx e.key=some b/\(b=true↔x=p.1):=λi p hp=>by
  obtain⟨e,e1,W⟩:=V i p hp;obtain⟨κ',s',m1,m2,m3,m4⟩:=A3 h2 p.1;rw[k1]at m1;cases m1;rw[zI U.symm m3]at W;obtain⟨b,q1,q2,_⟩:=N2 k2 (by omega) k4 m4 Y W;exact⟨e,by grind,b,q1,by rw[q2];exact⟨λh=>Cf (by grind),λh=>by grind⟩⟩
 have hfn:=D_ (d:=d) es.toList l 0 (by omega) E;simp_all
theorem wD {em:Bool}{xs:Array Value}:∀ (fs:List Field) (n:Nat),eqFields P n fs=true->n+fs.length<=xs.size->
  (forIn fs PUnit.unit (λf (_:PUnit) =>do
   if f.name≠ "_" then Instr.checkKey em 9999 f.type (<-part f.type xs f.offset)
   pure (ForInStep.yield PUnit.unit)):Sem PUnit).run P w=.ok PUnit.unit w
 | [],n,_,_=>by simp
 |f::fs,n,U,E=>by
  simp only[eqFields,alt]at U;obtain⟨⟨⟨q1,W⟩,V⟩,X⟩:=U;have Y:f.name≠ "_":=by grind
  have ho:f.offset=n:=alu W;have hc:cw (P.underlying f.type)≠0:=by have:=nbl V;omega
  simp only[aly]at E;have e1:=u4 (P:=P) (w:=w) hc (xs:=xs) (n:=n) (by omega);have e2:(Instr.checkKey em 9999 f.type (xs.getD n undef)).run P w=.ok () w:=by
   unfold Instr.checkKey;cases O:P.underlying f.type with
   |none=>grind [cw]
   |some d=>
    rw[O]at hc;simp only[alV,run_underlying O,alK];cases d <;>simp[cw]at hc <;>simp
  have ih:=wD (em:=em) (xs:=xs) fs (n+1) X (by omega);simp_all
theorem yr {em:Bool}{e:TypeId}(hc:cw (P.underlying e)≠0)(O:(sizeOf e).run P w=.ok 1 w){xs:Array Value}:∀ (n m:Nat),m+n<=xs.size->
  (forIn (List.range' m n) PUnit.unit (λi (_:PUnit) =>do
   Instr.checkKey em 9999 e (<-part e xs (i*(<-sizeOf e)))
   pure (ForInStep.yield PUnit.unit)):Sem PUnit).run P w=.ok PUnit.unit w
 |0,m,_=>by simp
 |n+1,m,hle=>by
  have U:=u4 (P:=P) (w:=w) hc (xs:=xs) (n:=m) (by omega);have V:(Instr.checkKey em 9999 e (xs.getD m undef)).run P w=.ok () w:=by
   unfold Instr.checkKey;cases E:P.underlying e with
   |none=>grind [cw]
   |some d=>
    rw[E]at hc;simp only[alV,run_underlying E,alK];cases d <;>simp[cw]at hc <;>simp
  have W:=yr (em:=em) hc O (xs:=xs) n (m+1) (by omega);simp_all [amV]
theorem tF{kk:Tag}{V:TypeId}(hk:K7 P V=some kk){x:kk.T}(hx:Rel F own w (svT kk x) vx)(em:Bool):(Instr.checkKey em 10000 V vx).run P w=.ok () w:=by
 obtain⟨i,d,hi,Y,hd,ha,U⟩:=A2 hk;rcases U with⟨h1,h2,W⟩ | ⟨h1,h2,W⟩;rw[h1]at ha;rw[xu ha.symm]at hx;obtain⟨xs,rfl,X⟩:=tE hx;have E:(nL P V d).length=xs.size:=by
  rw[X.1,<-h2,amo,bE];have:(dN kk).length=(cellsOf kk x).length:=by cases kk <;>rfl
  rw[this,bE]
 unfold Instr.checkKey;simp only[alV,run_underlying hd,alK];cases d with
 |struct fs=>
  simp only[nL]at W E;cases O:!P.stoodInHeld V&& !P.eqGuardType P.depth V&&eqFields P 0 fs.toList with
  |false=>grind
  |true=>
   rw[O]at E;simp only[alt]at O;have:=wD (P:=P) (w:=w) (em:=em) (xs:=xs) fs.toList 0 O.2 (by grind);simp_all
 |array n e=>
  simp only[nL]at W E;cases O:!P.eqGuardType P.depth V&&Nat.blt 0 (cw (P.underlying e))&&Nat.beq (nU P e) 1 with
  |false=>grind
  |true=>
   rw[O]at E;simp only[alt]at O;have hs1:=alu O.2;have hs:(sizeOf e).run P w=.ok 1 w:=by
    grind [nU,dM]
   have:=yr (P:=P) (w:=w) (em:=em) (xs:=xs) (e:=e) (by have:=nbl O.1.2;omega) hs n 0 (by grind);simp_all
 |_=>exact absurd rfl W
 unfold Instr.checkKey;simp only[alV,run_underlying hd,alK];cases d <;>simp[cw]at W <;>simp
end
def zJ (w:World)(b:Nat)(o:Obj):World:= { w with heap:=w.heap.setIfInBounds b o}
def N3 {w:World}{b k:Nat}{o:Obj}(h:k≠b):(zJ w b o).heap[k]? =w.heap[k]?:=by
 grind [zJ]
section
variable {P:Program}{F:Nat->Prop}{own:Own}{w:World}
theorem N4 {z:Value}(h:DD z=true):z=.agg z.cells:=by
 cases z <;>first|rfl|simp[DD]at h
variable {t:TypeId}{k:Tag}
theorem Lu{i:TypeInfo}(h:yl P t i=some k){z:Value}(V:i.zero=some z):Rel F own w (svT k (eC k)) z:=by
 obtain⟨t1,t2,t3,W⟩:=zH (F:=F) (own:=own) (w:=w) h;obtain⟨E,X⟩:=W z V;cases O:oi k with
 |true=>
  rw[xu O,N4 (X.trans O)];exact .agg E.1 E.2
 |false=>
  have hc:z.cells= #[z]:=by cases z <;>first|rfl|grind [DD]
  rw[hc]at E;have hl:(cellsOf k (eC k)).length=1:=by rw[<-E.1];rfl
  obtain⟨s,U⟩:∃ s,cellsOf k (eC k)=[s]:=by
   cases Y:cellsOf k (eC k) <;>grind
  rw[zI O U];have:=E.2 0 s (by rw[U];rfl);simp_all
theorem T_ {s:SV}{l:List SV}(h:AQ s=some l):l=[s]:=by
 unfold AQ at h;split at h
 cases h;cases h
 ·rename_i h1 h2;cases s <;>first|(simp[pf]at h;exact h.symm) |(simp[pf]at h;done) |(exact(h1 _ rfl).elim) |skip
  rename_i x;cases x <;>first|(simp[pf]at h;exact h.symm) |(simp[pf]at h;done) |grind
variable {v:Value}
theorem rI{s:SV}(X:Rel F own w s v){x:k.T}(h:unT k s=some x):Rel F own w (svT k x) v:=by
 unfold unT at h;cases O:oi k with
 |true=>
  rw[O]at h;simp only[cond_true]at h;rw[xu O];cases X with
  |agg V h1=>
   simp only[zr,B_]at h;have:=D4 h ⟨V,h1⟩;exact .agg this.1 this.2
  |v y=>
   cases v with
   |agg cs=>
    simp only[zr,B_]at h;have:=D4 h (vs:=cs) (xq (F:=F) (own:=own) (w:=w) (.agg cs));exact .agg this.1 this.2
   |_=>simp[zr,B_]at h
  |_=>simp[zr,B_]at h
 |false=>
  rw[O]at h;simp only[cond_false]at h;cases E:AQ s with
  |none=>rw[E]at h;cases h
  |some l=>
   rw[E]at h;have:=T_ E;subst this;simp only[B_]at h;have hc:=mw h;have U:=NW h;have Y:(dN k).length=1:=by
    have:(dN k).length=aa k:=by cases k <;>rfl
    grind
   cases W:dN k with
   |nil=>grind
   |cons κ r=>
    grind [zI,ot,xR]
theorem nE {a:Tag}{o:Option Tag}(h:lz a o=true):o=some a:=by
 cases o with
 |none=>cases h|some b=>rw[uj (k:=a) (k':=b) h]
variable {ti:TI}{kk O:Tag}
theorem yS(U:ca P t=some ti)(W:ti.mkt=some kk)(V:ti.mvt=some O):∃ E e,P.underlying t=some (.map E e)/\K7 P E=some kk/\K6 P e=some O:=by
 obtain⟨i,d,z,hi,hd,X,Y,rfl⟩:=bV U;cases d <;>simp[dL]at W V;grind
variable {E:Tag}
theorem Sd(l:List (kk.T×E.T))(p:Option (Nat×Option kk.T))(x:kk.T):(iC (eD kk E l p) x).getD (eC E)=(iC l x).getD (eC E):=by
 match p with
 |none=>rfl|some (_,none) =>rfl
 |some (_,some y) =>
  simp only[eD];split
  rfl
  ·rename_i U;have:∀ (l:List (kk.T×E.T)),iC (l++[(y,eC E)]) x=match iC l x with|some v=>some v|none=>if x=y then some (eC E)else none:=by
    intro l;induction l with
    |nil=>simp[iC]
    |cons a l O=>obtain⟨a,b⟩:=a;simp only[alU,iC];grind
   rw[this];cases iC l x <;>grind
variable {kt:TypeId}{x:kk.T}{es:Array MapEntry}
theorem zK{e:TypeId}(hd:P.underlying t=some (.map kt e))(hk:K7 P kt=some kk)(hv:K6 P e=some O){m Y:Value}(hx:Rel F own w (svT kk x) Y){L:List (kk.T×O.T)}
  (hm:(m=.map none/\es= #[])\/∃ b clock,m=.map (some b)/\w.heap[b]? =some (.map es clock)) (hl:es.size=L.length) (U:∀ (i:Nat) (p:kk.T×O.T),L[i]? =some p->∃ e,es[i]? =some e/\Rel F own w (svT kk p.1) e.key/\Rel F own w (svT O p.2) e.val) (ok:Bool):
  ∃ v,(Instr.lookup t m Y ok).run P w=.ok (if ok then .tuple #[v,.bool (iC L x).isSome]else v) w/\Rel F own w (svT O ((iC L x).getD (eC O))) v:=by
 obtain⟨i,hi,E⟩:=A0 hv;have W:∃ z,i.zero=some z:=by
  have:=AZ E;simp only[DE,alt]at this;grind
 obtain⟨z,W⟩:=W;have hck:=tF hk hx es.isEmpty;have hfk:=u6 hk hx hl (λi p hp=>by obtain⟨e,e1,e2,_⟩:=U i p hp;grind);have hzr:=Lu (F:=F) (own:=own) (w:=w) E W;have hzv:(zeroValue e).run P w=.ok z w:=by simp[zeroValue,typeInfo,hi,W]
 have V:∃ v,((∃ j,((oh L x).bind λi=>(es[i]?).map λe=>(i,e.val))=some (j,v)/\(iC L x).isSome=true)\/(((oh L x).bind λi=>(es[i]?).map λe=>(i,e.val))=none/\v=z/\(iC L x).isSome=false))/\Rel F own w (svT O ((iC L x).getD (eC O))) v:=by
  cases X:oh L x with
  |none=>
   grind [um]
  |some i=>
   obtain⟨y,h1,h2,_,_⟩:=rX X;obtain⟨e,e1,e2,e3⟩:=U i _ h1;grind
 obtain⟨v,h1,h2⟩:=V;refine⟨v,?_,h2⟩;rcases hm with⟨rfl,rfl⟩ | ⟨b,clock,rfl,hb⟩;simp_all [Instr.lookup,run_underlying];have hg:(getObj b).run P w=.ok (.map es clock) w:=by simp[getObj,Sem.run,hb]
 rcases h1 with⟨j,h1,h3⟩ | ⟨h1,rfl,h3⟩;simp_all [Instr.lookup,run_underlying];simp_all [Instr.lookup,run_underlying]
variable {r:OR}
theorem Ea{l:List (kk.T×E.T)}{ok:Bool}{o:Option kk.T}(O:HQ kk E l ok o=r)(U:r≠ .bad):∃ x,o=some x/\r=.val (bif ok then .tup [svT E (ax kk E l x),.b (wq kk E l x)]else svT E (ax kk E l x)):=by
 unfold HQ at O;grind
theorem zL{y:E.T}{b:Bool}(h:Rel F own w (svT E y) v)(ok:Bool):Rel F own w (bif ok then .tup [svT E y,.b b]else svT E y) (if ok then .tuple #[v,.bool b]else v):=by
 cases ok with
 |false=>exact h
 |true=>
  refine .tup rfl λj s O=>?_;cases j with
  |zero=>simp_all
  |succ j=>
   cases j with
   |zero=>simp at O;subst O;exact .v _|succ j=>simp at O
variable {h:List Ob}{sk:SV}{vx:Value}
theorem Ua(U:Hp F own w h)(ht:ca P t=some ti){s:SV}(hr:Rel F own w s v)(V:Rel F own w sk vx){ok:Bool}(E:tx ti h ok sk s=r)(O:r≠ .bad):
  ∃ s',r=.val s'/\∃ u,(Instr.lookup t v vx ok).run P w=.ok u w/\Rel F own w s' u:=by
 unfold tx at E;split at E
 rename_i id;obtain⟨hdd,h1,rfl,h2⟩:=iD hr;cases ho:aq h id with
 |mp kk Y l W=>
  rw[ho]at E;simp only[PA]at E;cases hc:lz kk ti.mkt&&lz Y ti.mvt&&(!ok||noE W)with
  |false=>grind
  |true=>
   rw[hc]at E;simp only[cond_true]at E;simp only[alt]at hc;obtain⟨x,hx,rfl⟩:=Ea E O;obtain⟨kt,e,q1,q2,q3⟩:=yS ht (nE hc.1.1) (nE hc.1.2);obtain⟨hd',e0,b,es,clk,m1,m2,m3,m4,_⟩:=U.at ho rfl;rw[h1]at e0;cases e0;obtain⟨u,X,k2⟩:=zK (P:=P) q1 q2 q3 (rI V hx) (m:=hdd.v) (.inr ⟨b,_,m1,m3⟩) m4.1 (λi p U=>by obtain⟨e,e1,e2,e3⟩:=m4.2 i p U;grind) ok;rw[Sd]at k2;refine⟨_,rfl,_,X,?_⟩;have hsome:ok=true->(iC (eD kk Y l W) x).isSome=wq kk Y l x:=λhok=>by
    have:=hc.2;rw[hok]at this;rw[kg (by grind)];rfl
   have:=zL (b:=wq kk Y l x) k2 ok;cases ok with
   |false=>exact this|true=>rw[hsome rfl];exact this
 |_=>rw[ho]at E;exact absurd E.symm O
 rename_i kk Y l;cases hc:lz kk ti.mkt&&lz Y ti.mvt with
 |false=>grind
 |true=>
  rw[hc]at E;simp only[cond_true]at E;simp only[alt]at hc;obtain⟨x,hx,rfl⟩:=Ea E O;obtain⟨kt,e,q1,q2,q3⟩:=yS ht (nE hc.1) (nE hc.2);cases hr with
  |rm ck cv es clock h0 h1 h2 h3 h4 h5=>
   rename_i b;obtain⟨u,X,k2⟩:=zK (P:=P) q1 q2 q3 (rI V hx) (m:=.map (some b)) (.inr ⟨b,_,rfl,h1⟩) h2 (λi p U=>by obtain⟨n,e1⟩:=h3 i p U;grind) ok;exact⟨_,rfl,_,X,zL k2 ok⟩
  |rm0=>
   obtain⟨u,X,k2⟩:=zK (P:=P) q1 q2 q3 (rI V hx) (m:=.map none) (.inl ⟨rfl,rfl⟩) rfl (λi p U=>by simp at U) ok (L:=[]);exact⟨_,rfl,_,X,zL k2 ok⟩
 have:=cK hr;subst this;unfold TM at E;split at E
 rename_i kk Y hk hv;obtain⟨x,hx,rfl⟩:=Ea E O;obtain⟨kt,e,q1,q2,q3⟩:=yS ht hk hv;obtain⟨u,X,k2⟩:=zK (P:=P) q1 q2 q3 (rI V hx) (m:=.map none) (.inl ⟨rfl,rfl⟩) rfl (λi p U=>by simp at U) ok (L:=[]);exact⟨_,rfl,_,X,zL k2 ok⟩;grind
 grind
theorem yu{κ:Kd}{s:SV}{u:Value}(O:jk κ≠0)(E:fit κ s=true)(U:Rel F own w s v)(V:Rel F own w s u)(n:Nat):u=v/\Instr.sameBits n v u=true:=by
 cases κ with
 |s=>have e:=HW E;grind [cK,Instr.sameBits,Jp]|b=>have e:=HX E;grind [cK,Instr.sameBits]|n k=>have e:=HY E;grind [cK,Instr.sameBits]|r k=>simp[jk]at O|m a b=>simp[jk]at O|f=>simp[jk]at O
theorem Lv:∀ {ks:List Kd} {l:List SV} {j:Nat} {s:SV},ub ks l=true->l[j]? =some s->∃ κ,κ∈ks/\fit κ s=true
 | [],l,j,s,h,E=>by grind [ul]
 |k::ks,l,j,s,h,E=>by
  obtain⟨x,r,rfl,U,O⟩:=pu h;cases j with
  |zero=>grind
  |succ j=>simp at E;obtain⟨κ,h1,h2⟩:=Lv O E;grind
theorem PT(hk:K7 P kt=some kk){u:Value}(hv:Rel F own w (svT kk x) v)(hu:Rel F own w (svT kk x) u):(Instr.keyThatStays v u).run P w=.ok u w:=by
 obtain⟨i,d,hi,aq3,hd,X,O⟩:=A2 hk;have:Instr.sameBits 10000 v u=true:=by
  rcases O with⟨h1,h2,h3⟩ | ⟨h1,h2,h3⟩;rw[h1]at X;rw[xu X.symm]at hv hu;obtain⟨xs,rfl,E⟩:=tE hv;obtain⟨W,rfl,V⟩:=tE hu;have Y:xs.size=W.size:=E.1.trans V.1.symm;have key:∀ (j:Nat),j<xs.size->W.getD j undef=xs.getD j undef/\Instr.sameBits 9999 (xs.getD j undef) (W.getD j undef)=true:=λj hj=>by
   have U:j< (cellsOf kk x).length:=by rw[<-E.1];exact hj
   obtain⟨κ,q1,q2⟩:=Lv (u5 kk x) (alE U);have hc:jk κ≠0:=by
    have:jk κ∈(dN kk).map jk:=anq.2 ⟨κ,q1,rfl⟩;grind [D8]
   exact yu hc q2 (E.2 j _ (alE U)) (V.2 j _ (alE U)) 9999
  simp only[Instr.sameBits,alt,beq_iff_eq,Y,true_and,al0];rintro⟨a,b⟩ hm;obtain⟨j,hj⟩:=ame hm;simp_all <;>grind;rw[h1]at X;obtain⟨κ,s,k1,k2,k3,k4⟩:=A3 h2 x;grind [zI,yu]
 simp[Instr.keyThatStays,this]
variable {W V:Value}
theorem apP.upd{bo:Own}{w':World}(g:apx F own w bo w'){U:Tag}{l:List (kk.T×U.T)}(h:apP F own w kk U l es){i:Nat}{y:U.T}(hx:Rel F own w (svT kk x) W)(hy:Rel F own w (svT U y) V)(hi:i<l.length):
  apP F bo w' kk U (l.set i (x,y)) (es.modify i λe=>{ e with key:=W,val:=V}):=by
 refine⟨by simp[h.1],λj p E=>?_⟩;rw[ank]at E;by_cases O:i=j
 subst O;rw[if_pos rfl,if_pos hi]at E;simp only[alx]at E;subst E;obtain⟨e,e1,X,_⟩:=h.2 i _ (alE hi);exact⟨{ e with key:=W,val:=V},by grind,X,hx.mono g,hy.mono g⟩;rw[if_neg O]at E;obtain⟨e,e1,X,e3,Y⟩:=h.2 j p E;exact⟨e,by grind,X,e3.mono g,Y.mono g⟩
theorem apP.push{bo:Own}{w':World}(g:apx F own w bo w'){l:List (kk.T×O.T)}(h:apP F own w kk O l es){y:O.T}{U:Value}(X:Rel F own w (svT kk x) V)(hy:Rel F own w (svT O y) U)(c:Nat):
  apP F bo w' kk O (l++[(x,y)]) (es.push ⟨V,U,c⟩):=by
 refine⟨by simp[h.1],λj p E=>?_⟩;rw[amn]at E;split at E
 rename_i hlt;obtain⟨e,e1,Y,e3,W⟩:=h.2 j p E;exact⟨e,by grind,Y,e3.mono g,W.mono g⟩;rename_i hlt;have hj:j=l.length:=by
  grind
 subst hj;simp at E;subst E;exact⟨⟨V,U,c⟩,by rw[<-h.1];simp,trivial,X.mono g,hy.mono g⟩
theorem apP.erase{bo:Own}{w':World}(g:apx F own w bo w'){V:Tag}{l:List (kk.T×V.T)}(h:apP F own w kk V l es)(i:Nat):
  apP F bo w' kk V (l.eraseIdx i) (es.eraseIdxIfInBounds i):=by
 have Y:es.toList.length=l.length:=by simpa using h.1
 refine⟨?_,λj p E=>?_⟩;grind [List.length_eraseIdx]
 rw[<-anf,Array.toList_eraseIdxIfInBounds,aoj];rw[aoj]at E;split at E
 rename_i hlt;obtain⟨e,X,U,W,O⟩:=h.2 _ p E;exact⟨e,by grind,U,W.mono g,O.mono g⟩;rename_i hlt;obtain⟨e,X,U,W,O⟩:=h.2 _ p E;exact⟨e,by grind,U,W.mono g,O.mono g⟩
theorem Jq (es:Array MapEntry)(i:Nat)(f:MapEntry->MapEntry)(E:∀ e,(f e).born=e.born):kD (es.modify i f)=kD es:=by
 unfold kD;refine List.ext_getElem? λj=>?_;grind
variable {c:Nat}
theorem Stamped.modify{i:Nat}{f:MapEntry->MapEntry}(h:Stamped es c)(E:∀ e,(f e).born=e.born):Stamped (es.modify i f) c:=by
 grind [Stamped,Jq]
theorem Stamped.push(h:Stamped es c)(E O:Value):Stamped (es.push ⟨E,O,c⟩) (c+1):=by
 grind [kD,Stamped]
theorem Stamped.erase(h:Stamped es c)(i:Nat):Stamped (es.eraseIdxIfInBounds i) c:=by
 have e:(kD (es.eraseIdxIfInBounds i)).Sublist (kD es):=by
  grind [kD,Array.toList_eraseIdxIfInBounds]
 exact⟨h.1.sublist e,λn E=>h.2 n (e.subset E)⟩
theorem H0 {κ υ:Type}[DecidableEq κ]{x:κ}:∀ {l:List (κ×υ)},oh l x=none->AP l x=l
 | [],_=>rfl
 |(a,b)::r,h=>by
  simp only[oh]at h;split at h
  cases h;rename_i E;simp only[AP,if_neg E];rw[H0 (by cases O:oh r x with
   |none=>rfl
   |some i=>rw[O]at h;cases h)]
theorem H1 {κ υ:Type}[DecidableEq κ]{x:κ}:∀ {l:List (κ×υ)} {i:Nat},oh l x=some i->AP l x=l.eraseIdx i
 | [],i,h=>by rfl
 |(a,b)::r,i,h=>by
  simp only[oh]at h;split at h
  rename_i U;cases h;simp[AP,U];rename_i O;cases E:oh r x with
  |none=>rw[E]at h;cases h
  |some j=>
   rw[E]at h;simp at h;subst h;simp[AP,O,H1 E]
theorem un(X:Hp F own w h){id:Nat}{hd:Hd}(h1:own id=some hd){b:Nat}(W:hd.bs=[b])(hv:hd.v=.map (some b))(hh:w.heap[b]? =some (.map es c))(E:Array MapEntry)(U:Nat){l':List (kk.T×O.T)}{p':Option (Nat×Option kk.T)}
  (hm:∀ bo w',apx F own w bo w'->apP F bo w' kk O (eD kk O l' p') E) (hs:Stamped E U) (V:ap9 own kk O l' E U p'):Step F own w (cF h id (.mp kk O l' p')) own (zJ w b (.map E U)):=by
 refine pt X h1 (b:=b) (by simp[W]) (by simp[zJ]) (λk Y=>N3 Y) rfl rfl rfl _ λg=>⟨b,E,U,hv,W,?_,hm _ _ g,hs,V⟩;grind [zJ]
theorem PU(V:Hp F own w h)(ht:ca P t=some ti){s sv:SV}{X:Value}(hr:Rel F own w s v)(hrk:Rel F own w sk X)(hrv:Rel F own w sv W)(E:CG ti h sk sv s=r)(hne:r≠ .bad):
  ∃ ups,r=.eff True True ups .any/\∃ w',(Instr.mapUpdate t v X W).run P w=.ok () w'/\Step F own w (bf h ups) own w':=by
 unfold CG at E;split at E
 rename_i id;obtain⟨hdd,h1,rfl,h2⟩:=iD hr;cases ho:aq h id with
 |mp kk vk l Y=>
  rw[ho]at E;simp only[abE]at E;cases hc:lz kk ti.mkt&&lz vk ti.mvt&&noE Y with
  |false=>grind
  |true=>
   rw[hc]at E;simp only[cond_true]at E;simp only[alt]at hc;unfold abD at E;split at E
   rename_i x y hx hy;subst E;obtain⟨kt,e,q1,q2,q3⟩:=yS ht (nE hc.1.1) (nE hc.1.2);obtain⟨hd',e0,b,es,O,m1,m2,m3,m4,m5,_⟩:=V.at ho rfl;rw[h1]at e0;cases e0;rw[kg hc.2]at m4;have rx:=rI hrk hx;have ry:=rI hrv hy;have hg:(getObj b).run P w=.ok (.map es O) w:=by simp[getObj,Sem.run,m3]
   have hset:∀ o,(setObj b o).run P w=.ok () (zJ w b o):=λo=>by simp[setObj,Sem.run,m3,zJ]
   have hck:=tF q2 rx false;have hfk:=u6 q2 rx m4.1 (λi p V=>by obtain⟨e,e1,e2,e3,_⟩:=m4.2 i p V;grind);refine⟨_,rfl,?_⟩;simp only[bf];cases U:oh l x with
   |none=>
    obtain⟨_,n2,_⟩:=um U;have:=un V h1 m2 m1 m3 (es.push ⟨X,W,O⟩) (O+1) (l':=dD kk vk l x y) (p':=none) (λbo w' g=>by
     grind [apP.push,eD,dD]) (m5.push X W) trivial
    simp_all [Instr.mapUpdate,run_underlying]
   |some i=>
    obtain⟨y',n1,n2,n3,_⟩:=rX U;obtain⟨e',k1,k2,k3,k4⟩:=m4.2 i _ n1;have:=un V h1 m2 m1 m3 (es.modify i λe=>{ e with key:=X,val:=W}) O (l':=dD kk vk l x y) (p':=none) (λbo w' g=>by
     grind [apP.upd,eD,dD]) (m5.modify λ_=>rfl) trivial
    refine⟨_,?_,this⟩;rw[U]at hfk;have hst:=PT q2 k3 rx;simp_all [Instr.mapUpdate,run_underlying]
   grind
 |_=>rw[ho]at E;exact absurd E.symm hne
 grind
theorem X6(Y:Hp F own w h)(ht:ca P t=some ti){l:List SV}{vs:Array Value}(hl:api F own w l vs)(O:yL ti h l=r)(hne:r≠ .bad){tys:Array TypeId}(hty:tys[0]? =some t)(ty:TypeId):
  ∃ ups,r=.eff True True ups .any/\∃ u w',(Builtin.delete_ tys ty vs).run P w=.ok u w'/\Step F own w (bf h ups) own w':=by
 unfold yL at O;split at O
 ·rename_i id sk;obtain⟨vs⟩:=vs;have hsz:=hl.1;match vs,hsz with
  | [v0,vx],_=>
  have hr:Rel F own w (.os id) v0:=hl.2 0 _ rfl;have hrk:Rel F own w sk vx:=hl.2 1 _ rfl;obtain⟨hdd,h1,rfl,h2⟩:=iD hr;cases ho:aq h id with
  |mp kk vk l apJ=>
   rw[ho]at O;simp only[abI]at O;cases hc:lz kk ti.mkt&&lz vk ti.mvt&&noE apJ with
   |false=>grind
   |true=>
    rw[hc]at O;simp only[cond_true]at O;simp only[alt]at hc;unfold abH at O;split at O
    rename_i x hx;subst O;obtain⟨kt,e,q1,q2,q3⟩:=yS ht (nE hc.1.1) (nE hc.1.2);obtain⟨hd',e0,b,es,W,m1,m2,m3,X,m5,_⟩:=Y.at ho rfl;rw[h1]at e0;cases e0;rw[kg hc.2]at X;have rx:=rI hrk hx;have hg:(getObj b).run P w=.ok (.map es W) w:=by simp[getObj,Sem.run,m3]
    have V:∀ o,(setObj b o).run P w=.ok () (zJ w b o):=λo=>by simp[setObj,Sem.run,m3,zJ]
    have hck:=tF q2 rx es.isEmpty;have U:=u6 q2 rx X.1 (λi p Y=>by obtain⟨e,e1,e2,e3,_⟩:=X.2 i p Y;grind);refine⟨_,rfl,?_⟩;simp only[bf];cases E:oh l x with
    |none=>
     have:=un Y h1 m2 m1 m3 es W (l':=sj kk vk l x) (p':=none) (λbo w' g=>by
      simp only[eD,sj,H0 E];exact X.carry g.apz) m5 trivial
     refine⟨.tuple #[],_,?_,this⟩;rw[E]at U;simp only[m1,Builtin.delete_,hty,anG,aoa,anD,alV,run_underlying q1,alK,hg,hck,U,Option.bind_none,V,amQ]
    |some i=>
     obtain⟨y',n1,n2,n3,_⟩:=rX E;obtain⟨e',k1,k2,k3,k4⟩:=X.2 i _ n1;have:=un Y h1 m2 m1 m3 (es.eraseIdxIfInBounds i) W (l':=sj kk vk l x) (p':=none) (λbo w' g=>by
      simp only[eD,sj,H1 E];exact apP.erase g X i) (m5.erase i) trivial
     refine⟨.tuple #[],_,?_,this⟩;rw[E]at U;simp only[m1,Builtin.delete_,hty,anG,aoa,anD,alV,run_underlying q1,alK,hg,hck,U,am6,k1,amK,V,amQ]
    grind
  |_=>rw[ho]at O;exact absurd O.symm hne
 grind
theorem N5{i:Nat}{e':MapEntry}(O:es[i]? =some e')(E:Value):(es.modify i λe=>{ e with key:=E})=es.modify i λe=>{ e with key:=E,val:=e'.val}:=by
 grind
theorem X7(hp:Hp F own w h){nx:Nat}(hn:apX own h nx)(ht:ca P t=some ti){s:SV}(hr:Rel F own w s v)(hrk:Rel F own w sk vx)(V:xS ti nx h sk s=r)(hne:r≠ .bad):
  Ci F own w h ((Instr.mapEntry t v vx).run P w) r:=by
 unfold xS at V;split at V
 ·rename_i id;obtain⟨hdd,h1,rfl,h2⟩:=iD hr;cases ho:aq h id with
  |mp kk X l apJ=>
   rw[ho]at V;simp only[RG]at V;cases hc:lz kk ti.mkt&&lz X ti.mvt&&noE apJ with
   |false=>grind
   |true=>
    rw[hc]at V;simp only[cond_true]at V;simp only[alt]at hc;unfold RE at V;split at V
    rename_i x hx;subst V;obtain⟨kt,e,q1,q2,q3⟩:=yS ht (nE hc.1.1) (nE hc.1.2);obtain⟨hd',e0,b,es,E,m1,m2,m3,m4,m5,_⟩:=hp.at ho rfl;rw[h1]at e0;cases e0;rw[kg hc.2]at m4;have rx:=rI hrk hx;obtain⟨i,hi,Y⟩:=A0 q3;have hz:∃ z,i.zero=some z:=by
     have:=AZ Y;simp only[DE,alt]at this;grind
    obtain⟨z,hz⟩:=hz;have hzr:=Lu (F:=F) (own:=own) (w:=w) Y hz;have hzv:(zeroValue e).run P w=.ok z w:=by simp[zeroValue,typeInfo,hi,hz]
    have hg:(getObj b).run P w=.ok (.map es E) w:=by simp[getObj,Sem.run,m3]
    have hset:∀ o,(setObj b o).run P w=.ok () (zJ w b o):=λo=>by simp[setObj,Sem.run,m3,zJ]
    have hck:=tF q2 rx false;have hfk:=u6 q2 rx m4.1 (λi p hp=>by obtain⟨e,e1,e2,e3,_⟩:=m4.2 i p hp;grind);have hidn:id≠nx:=λe=>by rw[e,hn.none]at h1;cases h1
    have st1:∀ n:Nat,Step F own w (cF h nx (.fwd none)) (own.move [] nx ⟨none,.int .i64 n,[],[]⟩) w:=λn=>
     kP (nx:=nx) hp hn [] (by simp) ⟨none,.int .i64 n,[],[]⟩ (.fwd none) (λb hb=>by simp at hb) (λ_ _ _=>rfl) (alw _) rfl rfl rfl λbo g i hi=>by cases hi
    have go:∀ n:Nat,(own.move [] nx ⟨none,.int .i64 n,[],[]⟩) id=some hdd:=λn=>by grind [Own.move]
    have gx:∀ n:Nat,(own.move [] nx ⟨none,.int .i64 n,[],[]⟩) nx=some ⟨none,.int .i64 n,[],[]⟩:=λn=>by simp[Own.move]
    have fin:∀ (n:Nat) (O:Array MapEntry) (c':Nat),(∀ bo w',apx F own w bo w'->apP F bo w' kk X (eD kk X l (some (nx,some x))) O)->Stamped O c'->(∃ e,O[ud kk X l x]? =some e/\e.born=n)->
      Step F own w (bf h [(nx,.fwd none),(id,.mp kk X l (some (nx,some x)))]) (own.move [] nx ⟨none,.int .i64 n,[],[]⟩) (zJ w b (.map O c')):=λn O c' hm hs hpd=>by
     obtain⟨e1,p1,p2⟩:=hpd;have s1:=st1 n;have s2:=un s1.hp (go n) m2 m1 m3 O c' (l':=l) (p':=some (nx,some x)) (λbo w' g=>hm _ _ ⟨λid hd h=>by obtain⟨hd',a,b⟩:=s1.fr.apD.ids (F:=F) id hd h;obtain⟨W,a2,b2⟩:=g.ids _ _ a;exact⟨W,a2,b.trans b2⟩,λb hb hn=>by
      obtain⟨a1,a2⟩:=s1.fr.apD.keep b hb hn;obtain⟨a3,a4⟩:=g.keep b hb a1;grind,g.size⟩) hs ⟨_,e1,gx n,p1,by rw[p2]⟩
     refine⟨s2.hp,s1.fr.trans s2.fr,λj U hd=>?_⟩;have W:dI (aq (cF (cF h nx (.fwd none)) id (.mp kk X l (some (nx,some x)))) j)=true:=hd;rw[dF,dF]at W;by_cases e:j=nx
     subst e;rw[if_neg hidn,if_pos rfl]at W;cases W;grind [Own.move]
    cases hmi:oh l x with
    |none=>
     obtain⟨n1,n2,n3⟩:=um hmi;have hpos:ud kk X l x=es.size:=by rw[m4.1];simp[ud,n3]
     have:=fin E (es.push ⟨vx,z,E⟩) (E+1) (λbo w' g=>by
      simp only[eD,n1,Option.isSome_none,alB,if_false];grind [apP.push]) (m5.push vx z) ⟨⟨vx,z,E⟩,by grind,rfl⟩
     refine⟨_,_,_,_,rfl,λ_=>⟨trivial,.tuple #[z,.int .i64 E],_,_,?_,.tup rfl λj s U=>?_,this⟩⟩;simp_all [Instr.mapEntry,run_underlying,goInt];match j,U with
     |0,U=>cases U;have:=hzr.mono this.fr.apD;simp_all [ax]|1,U=>cases U;exact .os (gx E) rfl
    |some i=>
     obtain⟨y',n1,n2,n3,n4⟩:=rX hmi;obtain⟨e',k1,k2,k3,k4⟩:=m4.2 i _ n1;have hes':=N5 k1 vx;have hpos:ud kk X l x=i:=n4;have:=fin e'.born (es.modify i λe=>{ e with key:=vx}) E (λbo w' g=>by
      simp only[eD,n2,Option.isSome_some,if_true];rw[hes'];have:=apP.upd g m4 rx k4 (alz.1 n1).1
      rwa[show l.set i (x,y')=l by
       apply List.ext_getElem?;intro j;rw[ank];grind]at this) (m5.modify λ_=>rfl) ⟨{ e' with key:=vx},by grind,rfl⟩
     refine⟨_,_,_,_,rfl,λ_=>⟨trivial,.tuple #[e'.val,.int .i64 e'.born],_,_,?_,.tup rfl λj s U=>?_,this⟩⟩;rw[hmi]at hfk;have hst:=PT q2 k3 rx;simp_all [Instr.mapEntry,run_underlying,goInt];match j,U with
     |0,U=>cases U;have:=k4.mono this.fr.apD;simp_all [ax]|1,U=>cases U;exact .os (gx _) rfl
    grind
  |_=>rw[ho]at V;exact absurd V.symm hne
 grind
theorem Ub{i:Nat}{e:MapEntry}(U:(kD es).Nodup)(hi:es[i]? =some e):es.findIdx? (λx=>(x.born:Int) ==(e.born:Int))=some i:=by
 obtain⟨O,E⟩:=amH.1 hi;rw[Array.findIdx?_eq_some_iff_getElem];refine⟨O,by simp[E],λj V=>?_⟩;simp only[beq_iff_eq];grind [List.pairwise_iff_getElem,kD]
theorem X8(hp:Hp F own w h)(ht:ca P t=some ti){s ss sv:SV}{vs:Value}(hr:Rel F own w s v)(hrs:Rel F own w ss vs)(hrv:Rel F own w sv W)(E:I_ ti h sv s ss=r)(U:r≠ .bad):
  ∃ c ups,r=.eff c True ups .any/\(c->∃ w',(Instr.entryStore t v vs W).run P w=.ok () w'/\Step F own w (bf h ups) own w'):=by
 unfold I_ at E;split at E
 ·rename_i id n;obtain⟨hdd,h1,rfl,h2⟩:=iD hr;obtain⟨hds,s1,rfl,_⟩:=iD hrs;cases ho:aq h id with
  |mp kk O l Y=>
   rw[ho]at E;cases Y with
   |none=>exact absurd E.symm U
   |some q=>
   obtain⟨n',q⟩:=q;cases q with
   |none=>exact absurd E.symm U
   |some x=>
   simp only[abG]at E;cases hc:lz kk ti.mkt&&lz O ti.mvt&&Nat.beq n' n with
   |false=>grind
   |true=>
    rw[hc]at E;simp only[cond_true]at E;simp only[alt]at hc;have hnn:=alu hc.2;subst hnn;unfold abF at E;split at E
    rename_i y hy;subst E;obtain⟨hd',e0,b,es,clk,m1,m2,m3,m4,m5,hd2,e',t1,k1,t3⟩:=hp.at ho rfl;rw[h1]at e0;cases e0;rw[s1]at t1;cases t1;have ry:=rI hrv hy;refine⟨_,_,rfl,λ_=>?_⟩;simp only[bf];have hg:(getObj b).run P w=.ok (.map es clk) w:=by simp[getObj,Sem.run,m3]
    have hset:∀ o,(setObj b o).run P w=.ok () (zJ w b o):=λo=>by simp[setObj,Sem.run,m3,zJ]
    have X:∃ y0,(eD kk O l (some (n',some x)))[ud kk O l x]? =some (x,y0)/\dD kk O l x y=(eD kk O l (some (n',some x))).set (ud kk O l x) (x,y):=by
     cases V:oh l x with
     |none=>
      obtain⟨n1,n2,n3⟩:=um V;simp_all [eD,ud,dD]
     |some i=>
      obtain⟨y',n1,n2,n3,n4⟩:=rX V;grind [eD,ud,dD]
    obtain⟨y0,p1,p2⟩:=X;obtain⟨e'',k1',k2,k3,k4⟩:=m4.2 _ _ p1;rw[k1]at k1';cases k1';have hlt:ud kk O l x<es.size:=(amH.1 k1).1;have hes':(es.modify (ud kk O l x) λe=>{ e with val:=W})=es.modify (ud kk O l x) λe=>{ e with key:=e'.key,val:=W}:=by
     apply aoL;simp;intro j h1 h2;simp only[Array.getElem_modify];grind
    have:=un hp h1 m2 m1 m3 (es.modify (ud kk O l x) λe=>{ e with val:=W}) clk (l':=dD kk O l x y) (p':=none) (λbo w' g=>by
     grind [apP.upd,eD]) (m5.modify λ_=>rfl) trivial
    refine⟨_,?_,this⟩;have hfi:=Ub m5.1 k1;simp_all [Instr.entryStore,asInt,tB];grind
  |_=>rw[ho]at E;exact absurd E.symm U
 grind
end
section
variable {P:Program}{F:Nat->Prop}{own:Own}{w:World}
variable {k:Tag}{m:List k.T}{v:Value}
theorem apb.swap{U:List Nat}(h1:pr v=true)(W:ao8 F own w k m v U):∀ {l:List (List k.T)} {vs:List Value} {bs:List Nat} {i:Nat},apb F own w k l vs bs->i<l.length->bs.Nodup->U.Nodup->(∀ b∈bs,b ∉ U)->
  ∃ E,apb F own w k (l.set i m) (vs.set i v) E/\(∀ b∈E,b∈bs\/b∈U)/\E.Nodup
 |l::ls,u::vs,bs,0,⟨b1,b2,e,h0,h2,h3⟩,_,hn,hbn,hd=>by
  subst e;have O:=amP.1 hn;refine⟨U++b2,⟨U,b2,rfl,h1,W,h3⟩,λb V=>?_,amP.2 ⟨hbn,O.2.1,λa X b V e=>hd b (ang _ V) (e▸X)⟩⟩;grind
 |l::ls,u::vs,bs,i+1,⟨b1,b2,e,h0,h2,h3⟩,hi,hn,hbn,hd=>by
  subst e;have O:=amP.1 hn;obtain⟨E,q1,q2,Y⟩:=apb.swap h1 W h3 (by simpa using hi) O.2.1 hbn λb V=>hd b (ang _ V);refine⟨b1++E,⟨b1,E,rfl,h0,h2,q1⟩,λb V=>?_,amP.2 ⟨O.1,Y,λa X b V e=>?_⟩⟩ <;>grind
 | [],_,_,_,_,hi,_,_,_=>absurd hi (Nat.not_lt_zero _)|_::_,[],_,_,h,_,_,_,_=>h.elim
theorem Step.fwd {h1:List Ob}{E:Own}{w1:World}(s:Step F own w h1 E w1){id nx:Nat}{hd0 hd':Hd}(W:E id=some hd0)(hb:hd0.bs=[])(hnx:E nx=some hd')(hv:hd'.v=hd0.v)(h0:pr hd0.v=true)(Y:id<h1.length)(ho:own id≠none):
  Step F own w (cF h1 id (.fwd (some nx))) E w1:=by
 have U:∀ j,aq (cF h1 id (.fwd (some nx))) j=if id=j then .fwd (some nx)else aq h1 j:=λj=>dF ..;have X:(cF h1 id (.fwd (some nx))).length=h1.length:=by rw[cB,if_pos Y]
 refine⟨s.hp.upd (apx.refl _ _ _) (λj=>j=id) (by omega) (λj O=>⟨rfl,by grind,λ_ _ _ _=>rfl⟩) (λj hd O e=>?_) (λj O _=>?_),s.fr,λj O hd=>?_⟩;grind
 subst O;refine⟨hd0,W,?_⟩;rw[U,if_pos rfl];intro i e;grind;have V:id≠j:=λe=>ho (e▸O);rw[U,if_neg V]at hd;exact s.fresh j O hd
variable {h:List Ob}{t:TypeId}{ti:TI}
theorem Se(X:Hp F own w h){nx:Nat}(hn:apX own h nx)(ht:ca P t=some ti){id E:Nat}{i:Int}{l:List (List k.T)}{vx:Value}(hr:Rel F own w (.rp 1 id i 0) v)(hrx:Rel F own w (.os E) vx)(hne:id≠E)(hsz:ti.size=1)
  (ho:aq h id=.apg k l) (ho2:aq h E=.row k m):∃ bo w',(Instr.storeAt t v vx).run P w=.ok () w'/\Step F own w (bf h [(id,.dead),(E,.dead),(nx,.apg k (l.set i.toNat m)),(id,.fwd (some nx))]) bo w':=by
 cases hr with
 |rp h1 h2 h3=>
 rename_i n cap b o hd;obtain⟨O,g1,rfl,g2⟩:=iD hrx;obtain⟨hd',e0,e⟩:=X.at ho rfl;rw[h1]at e0;cases e0;obtain⟨hd2',e0,hm⟩:=X.at ho2 rfl;rw[g1]at e0;cases e0;rcases e with⟨q,_⟩ | ⟨b',o',cap',cs,ty,bs,e1,e2,e3,e4,e5,e6,e7,e8,e9⟩;grind
 have e1':=e1;rw[h2]at e1;simp only[ams,alx,amT]at e1;obtain⟨⟨rfl,rfl,_⟩,rfl,rfl⟩:=e1;obtain⟨Y,w',q1,V,q3,q4,q5⟩:=xr (P:=P) ht hrx (xs:=[.os E]) rfl (by rw[hsz];rfl) (λj s W v hv=>by
  cases j with
  |zero=>simp at W;subst W;obtain⟨hd3,_,rfl,k2⟩:=iD hv;exact mv k2
  |succ j=>simp at W) (off:=o+i.toNat) e4 (by simp;omega)
 have hnd:bs.Nodup/\b ∉ bs:=by grind
 have hbb:b∈hd.bs:=by grind
 have hdis:∀ c∈hd.bs,c ∉ O.bs:=λc hc hc2=>hne (X.inj id E hd O c h1 g1 hc hc2);have hnd2:O.bs.Nodup:=by rcases hm.blocks with e| ⟨c,e⟩ <;>rw[e] <;>simp
 obtain⟨U,r1,r2,r3⟩:=e9.swap (i:=i.toNat) g2 hm h3 hnd.1 hnd2 (λc hc=>hdis c (by grind));have hb':b ∉ U:=λhm=>by
  grind
 have hK:∀ id'∈[id,E],∃ hd,own id'=some hd:=by grind
 have hKl:id<h.length:=X.dom _ _ h1;have hnk:nx ∉ [id,E]:=λhm=>by obtain⟨hd,e⟩:=hK nx hm;rw[hn.none]at e;cases e
 have hu:Y[o+i.toNat]? =some O.v:=by
  obtain⟨u,k1,k2⟩:=q4 (o+i.toNat) (alw _) (by simp);obtain⟨hd3,k3,k4,_⟩:=iD (k2 (.os E) (by simp));grind
 have st:=kP (w':=w') X hn [id,E] hK ⟨none,hd.v,hd.vs.set i.toNat O.v,b::U⟩ (.apg k (l.set i.toNat m)) (λc hc=>by
   grind)
  (λc _ hno=>V.other c λe=>hno ⟨id,by simp,hd,h1,e▸hbb⟩) (by rw[V.size];omega) V.os V.tape V.output
  (λbo g=>.inr ⟨b,o,cap,Y,ty,U,by grind,rfl,al6.2 ⟨hb',r3⟩,V.here,by omega,by grind,by grind,λj u W=>by
    rw[ank]at W;grind,r1.carry g.apz λc hc=>V.other c λe=>hb' (e▸hc)⟩)
 have hmv:=j_ nx (.apg k (l.set i.toNat m)) [id,E] h 0 hnk (λj W=>by obtain⟨hd,e⟩:=hK j W;exact X.dom _ _ e);have hidn:id≠nx:=λe=>hnk (e▸by simp);have:=st.fwd (id:=id) (nx:=nx) (hd0:= { hd with bs:=[]}) (hd':=⟨none,hd.v,hd.vs.set i.toNat O.v,b::U⟩) (by grind [Own.move]) rfl (by simp[Own.move]) rfl (by show pr hd.v=true;rw[h2];rfl) (alG hKl hmv.2.1) (by rw[h1];simp);exact⟨_,w',by grind,this⟩
def Eb {k:Tag}(a:Option Addr):∀ n:Nat,apb F own w k (List.replicate n []) (List.replicate n (.slice a 0 0)) []
 |0=>rfl|n+1=>⟨[],[],rfl,rfl,.inl ⟨a,rfl,rfl,rfl⟩,Eb a n⟩
variable {r:OR}
theorem X9(hp:Hp F own w h){nx:Nat}(hn:apX own h nx){te tr:TI}(ht:ca P t=some ti)(hte:ca P ti.elem=some te)(hsl:ti.isSlice=true){sl sc:SV}{vl vc:Value}(hrl:Rel F own w sl vl)(hrc:Rel F own w sc vc)(V:GJ nx te tr sl sc=r)(hne:r≠ .bad):
  Ci F own w h ((Instr.makeSlice t vl vc).run P w) r:=by
 obtain⟨i,d,z,hi,hd,hz,hq,rfl⟩:=bV ht;obtain⟨O,de,ze,W,hde,hze,hqe,E⟩:=bV hte;cases d <;>simp[dL]at hsl;rename_i e;simp only[dL]at W;unfold GJ at V;split at V
 ·rename_i n c;have el:=cK hrl;have ec:=cK hrc;subst el;subst ec;unfold XQ at V;split at V
  ·rename_i k aq3;cases U:Nat.beq te.size 1&&XP te.zero&&Nat.ble 1 te.bytes with
   |false=>grind
   |true=>
   rw[U]at V;simp only[cond_true]at V;subst V;simp only[alt]at U;have hes:te.size=O.size:=by rw[E];rfl
   have heb:te.bytes=O.bytes:=by rw[E];rfl
   have hez:te.zero=svs ze:=by simp_all [dL]
   have t1:O.size=1:=by simp_all
   have hzc:ze.cells= #[.slice none 0 0]:=by
    have:=U.1.2;rw[hez]at this;unfold XP at this;split at this
    rename_i q;unfold svs at q;have q2:ze.cells.toList=[.slice none 0 0]:=by
     simp_all
    grind
    cases this
   refine⟨_,_,_,_,rfl,λ⟨hc1,Y,hc3⟩ =>?_⟩;subst hc1;rw[heb]at hc3;have hby:1<=O.bytes:=by simp_all
   have hnb:n<=n*(O.bytes:Int):=by
    have:n*1<=n*(O.bytes:Int):=ana (by omega) Y;omega
   have hnm:n<=(aK:Int):=by grind [d9,aK]
   refine⟨hnm,?_⟩;have X:=run_make (P:=P) w t e O ze hd W hze .i64 .i64 n n Y (al5 _) (by grind [d9]) (by grind [aK]);refine⟨_,_,_,X,Rel.os (F:=F) (id:=nx) (hd:=⟨none,.slice (some ⟨w.heap.size,0,none⟩) n.toNat n.toNat,List.replicate n.toNat (.slice none 0 0),[w.heap.size]⟩) (Own.apj _ _ _) rfl,ui hp hn (w1:=w) ⟨rfl,rfl,rfl,rfl⟩ _ _ _ rfl λbo g=>.inr ⟨w.heap.size,0,n.toNat,_,e,[],by simp,rfl,by simp,kC _ _,?_,by simp,by simp;omega,λq x hx=>?_,Eb none _⟩⟩;grind [size_madeCells]
   have hql:q<n.toNat:=by grind
   simp_all [madeCells,aoM]
  grind
 grind
theorem Sf(hp:Hp F own w h){nx:Nat}(hn:apX own h nx)(ht:ca P t=some ti){s sx:SV}{Y:Value}(hr:Rel F own w s v)(W:Rel F own w sx Y)
  (E:ra ti.size nx h s sx=r) (O:r≠ .bad):∃ ups bo w',r=.eff True True ups .any/\(Instr.storeAt t v Y).run P w=.ok () w'/\Step F own w (bf h ups) bo w':=by
 have old:q_ ti.size h s (pf sx)=r->∃ ups bo w',r=.eff True True ups .any/\(Instr.storeAt t v Y).run P w=.ok () w'/\Step F own w (bf h ups) bo w':=λE=>by
  obtain⟨ups,e,w',e1,e2⟩:=R_ (P:=P) hp ht hr W E O;grind
 unfold ra at E;split at E
 rename_i sz id i off V;cases X:I5 (aq h id)with
 |false=>grind
 |true=>
  rw[X]at E;simp only[cond_true]at E;cases hc:Nat.beq ti.size 1&&Nat.beq sz 1&&Nat.beq off 0&& !(Nat.beq id V)with
  |false=>grind
  |true=>
   rw[hc]at E;simp only[cond_true]at E;simp only[alt,alL]at hc;have c1:=alu hc.1.1.1;have c2:=alu hc.1.1.2;have c3:=alu hc.1.2;have c4:id≠V:=λe=>by simp_all
   subst c2;subst c3;cases ho:aq h id with
   |apg k l=>
    rw[ho]at E;simp only[DJ]at E;cases U:aq h V with
    |row k' m'=>
     rw[U]at E;simp only[NE]at E;split at E
     rename_i ek;subst ek;obtain⟨bo,w',e1,e2⟩:=Se (P:=P) hp hn ht hr W c4 c1 ho U;exact⟨_,bo,w',E.symm,e1,e2⟩;exact absurd E.symm O
    |_=>rw[U]at E;exact absurd E.symm O
   |_=>rw[ho]at X;cases X
 grind
theorem Ec{l:List k.T}{lo hi:Int}(h:hi.toNat<=l.length):(wr k l lo hi).length=l.length:=by
 grind [wr]
theorem GN {z:Array Value}{n i:Nat}(h:i<n*z.size):(Builtin.zeroCells z n)[i]? =some (z[i % z.size]!):=by
 simp[Builtin.zeroCells,h]
theorem X_(hp:Hp F own w h){te:TI}(ht:ca P t=some ti)(hte:ca P ti.elem=some te){l:List SV}{vs:Array Value}(hl:api F own w l vs)(U:yK ti te h l=r)(hne:r≠ .bad)(ty:TypeId):
  Ci F own w h ((Builtin.clear_ #[t] ty vs).run P w) r:=by
 obtain⟨i,d,z,hi,hd,hz,hq,rfl⟩:=bV ht;obtain⟨ie,de,W,hie,hde,hze,hqe,hte'⟩:=bV hte;unfold yK at U;split at U
 ·rename_i s id lo E;obtain⟨vs⟩:=vs;have hsz:=hl.1;match vs,hsz with
  | [v0],_=>
  have hr:Rel F own w (.vw s id lo E) v0:=hl.2 0 _ rfl;cases hsl:(dL P t i d).isSlice with
  |false=>grind
  |true=>
  rw[hsl]at U;simp only[cond_true]at U;cases d <;>simp[dL]at hsl;rename_i e;simp only[dL]at hie;cases hr with
  | @vw _ _ cap _ _ hd' a h1 h2 hcap3=>
  cases ho:aq h id with
  |row k m=>
   rw[ho]at U;simp only[abC]at U;cases hc:Nat.beq s (aa k)&&Pz k te.tag with
   |false=>grind
   |true=>
    rw[hc]at U;simp only[cond_true]at U;subst U;rw[alt]at hc;have hs:=alu hc.1;have V:te.tag=some k:=by
     cases hq:te.tag with
     |none=>grind [Pz]|some b=>rw[hq]at hc;rw[uj (k:=k) (k':=b) hc.2]
    have aq3:yl P e ie=some k:=by rw[hte']at V;exact V
    obtain⟨t1,t2,t3,t4⟩:=zH (F:=F) (own:=own) (w:=w) aq3;have X:=(t4 W hze).1;have hzs:W.cells.size=aa k:=by rw[X.1,bE]
    have hzv:(zeroValue e).run P w=.ok W w:=by simp[zeroValue,typeInfo,hie,hze]
    obtain⟨hdd,e0,O⟩:=hp.at ho rfl;rw[h1]at e0;cases e0;have O:ao8 F own w k m hd'.v hd'.bs:=O;refine⟨_,_,_,_,rfl,λ_=>⟨trivial,.tuple #[],own,?_⟩⟩;simp only[bf];by_cases hlt:E.toNat<=lo.toNat
    have hn0:E.toNat - lo.toNat=0:=by omega
    refine⟨w,?_,.any _,?_⟩;rw[hn0];cases a <;>simp[Builtin.clear_,run_underlying hd];rw[wr,if_pos hlt];exact HT hp h1 _ O;obtain⟨b,o,n,cap',e1,e2,e3⟩:=h2.resolve_left hlt;subst e3;rcases O with⟨a',q1,rfl,q2⟩ | ⟨b',o',cap2,cs,ty2,q1,q2,q3,q4,q5,q6,q7⟩;grind
    rw[e1]at q1;simp only[ams,alx,amT]at q1;obtain⟨⟨rfl,rfl,_⟩,rfl,rfl⟩:=q1;subst hs;have hN:(E.toNat - lo.toNat)≠0:=by omega
    obtain⟨N,hN'⟩:∃ N,E.toNat - lo.toNat=N+1:=⟨E.toNat - lo.toNat - 1,by omega⟩;have hmul:lo.toNat*aa k+(E.toNat - lo.toNat)*aa k<=cap'*aa k:=by
     rw[<-aos];exact alM _ (by omega)
    have hzc:(Builtin.zeroCells W.cells (E.toNat - lo.toNat)).toList.length=(E.toNat - lo.toNat)*aa k:=by rw[Array.length_toList,rf,hzs]
    have hone:∀ v∈(Builtin.zeroCells W.cells (E.toNat - lo.toNat)).toList,v.oneCell'=true:=λv hv=>by
     have hm:v∈W.cells:=by
      simp only[Builtin.zeroCells]at hv;simp at hv;obtain⟨w9,hv1,hv2⟩:=hv;have hpos:0<W.cells.size:=by
       grind
      have:=anz w9 hpos;grind
     obtain⟨j,hj,rfl⟩:=aot hm;have Y:j< (cellsOf k (eC k)).length:=by rw[<-X.1];exact hj
     have:=X.2 j _ (alE Y);have h9:=Jh (alE Y) this;rw[alW,amL hj]at h9;exact mv h9
    obtain⟨cs',w',p1,p2,p3,p4⟩:=jR (P:=P) (b:=b) (o:=o+lo.toNat*aa k) (ty:=ty2) (Builtin.zeroCells W.cells (E.toNat - lo.toNat)).toList 0 w cs q3 (by omega) hone;refine⟨w',?_,.any _,pt hp h1 (b:=b) (by rw[q2];simp) p2.size p2.other p2.os p2.tape p2.output _ λg=>.inr ⟨b,o,cap',cs',ty2,?_,q2,p2.here,by omega,?_,?_,?_⟩⟩;simp_all [Builtin.clear_,run_underlying];grind [Ec]
    grind [Ec]
    grind [Ec]
    intro q x hx j s hj;rw[wr,if_neg hlt]at hx;have Y:j<aa k:=by grind [bE]
    rw[p4,hzc];have hql:q<m.length:=by
     grind
    by_cases hin:lo.toNat<=q/\q<E.toNat
    have hx':x=eC k:=by
     grind [List.getElem?_append_left]
    subst hx';have hlow:lo.toNat*aa k<=q*aa k:=alM _ hin.1;have hup:q*aa k+aa k<=E.toNat*aa k:=by rw[<-anV];exact alM _ hin.2
    have hsub:(E.toNat - lo.toNat)*aa k=E.toNat*aa k - lo.toNat*aa k:=aoN _ _ _;rw[if_pos (by omega)];refine⟨W.cells.getD j undef,?_,(X.2 j s hj).mono g⟩;have hidx:o+q*aa k+j - (o+lo.toNat*aa k+0)=(q - lo.toNat)*aa k+j:=by rw[aoN];omega
    rw[hidx,anf];have hlt2:(q - lo.toNat)*aa k+j< (E.toNat - lo.toNat)*aa k:=by omega
    have hmod:((q - lo.toNat)*aa k+j) % aa k=j:=by rw[Nat.mul_comm,Nat.mul_add_mod,an_ Y]
    have:=GN (z:=W.cells) (n:=E.toNat - lo.toNat) (i:=(q - lo.toNat)*aa k+j) (by grind);simp_all;rw[if_neg (by
     rintro⟨a1,a2⟩;apply hin;rw[aoN]at a2;refine⟨?_,?_⟩;apply al2;intro hc;have:(q+1)*aa k<=lo.toNat*aa k:=alM _ (by omega);grind
     apply al2;intro hc;have h5:E.toNat*aa k<=q*aa k:=alM _ (by omega);omega)]
    have hx2:m[q]? =some x:=by
     by_cases h0:q<lo.toNat
     grind
     rw[ann (by simp;omega),anA]at hx;grind
    obtain⟨u,u1,u2⟩:=q7 q x hx2 j s hj;exact⟨u,u1,u2.mono g⟩
  |_=>rw[ho]at U;exact absurd U.symm hne
 grind
end
end Go.Sx
end
section
namespace Go.Sx
variable {P:Program}
variable {since clock:Nat}{seen:Array Nat}{es:Array MapEntry}
theorem Jr{w:World}{ty:TypeId}{b bm c0:Nat}(Y:w.heap[b]? =some (.mapIter (some bm) since seen c0))(hm:w.heap[bm]? =some (.map es clock))(E:∀ x∈es.toList,x.born<since)(X:since<=c0):
  ((leftOf es seen).size=0/\(Instr.next (.pointer (some ⟨b,0,none⟩)) false ty).run P w=.ok (.tuple #[.bool false]) w)\/
  ∃ e∈(leftOf es seen).toList,∃ w1:World,(w1=w\/w1=w.drew)/\(Instr.next (.pointer (some ⟨b,0,none⟩)) false ty).run P w=.ok (.tuple #[.bool true,e.key,e.val]) { w1 with heap:=w1.heap.setIfInBounds b (.mapIter (some bm) since (seen.push e.born) clock)}:=by
 simp only[Instr.next,getObj,alV,Sem.run,Y,hm,Result.andThen,next_test_false seen es since c0 E X,alB,if_false];unfold leftOf;have U:∀ x∈(Array.filter (λe=>!seen.contains e.born) es).toList,x.born<since:=λx hx=>E x (by grind);generalize Array.filter (λe=>!seen.contains e.born) es=L at U |-;have e1:L.filter (λx=>decide (x.born<since))=L:=Array.filter_eq_self.2 (λx hx=>by grind);have e2:L.filter (λx=>decide (x.born>=since))= #[]:=by
  simp_all
 simp only[e1,e2,Array.append_empty];by_cases h0:L.size=0
 simp_all [Question.forced];right;have V:L.isEmpty=false:=by grind
 simp only[V,alB,if_false,Array.empty_append,Array.size_map];have W:∃ (j:Nat) (w1:World),j<L.size/\(w1=w\/w1=w.drew)/\(choose (Question.mapNext L.size)).run P w=.ok j w1:=by
  by_cases hf:L.size<=1
  exact⟨0,w,by omega,.inl rfl,by simp[choose,Sem.run,Question.forced,hf]⟩;exact⟨_,w.drew,anz _ (by omega),.inr rfl,by
   simp only[choose,Sem.run,Question.forced,decide_eq_true_eq,hf,if_false,Question.cut];rfl⟩
 obtain⟨j,w1,hj,O,hrun⟩:=W;have hb1:w1.heap[b]? =some (.mapIter (some bm) since seen c0):=by
  rcases O with rfl|rfl;exact Y;exact Y
 refine⟨L[j],by simp,w1,O,?_⟩;simp_all [setObj,Sem.run]
theorem GO{w:World}{b bm:Nat}{e:MapEntry}(W:w.heap[b]? =some (.mapIter (some bm) since (seen.push e.born) clock))(E:w.heap[bm]? =some (.map es clock))(O:e∈es.toList)(U:(es.toList.map (·.born)).Nodup):
  (Instr.entry (.pointer (some ⟨b,0,none⟩))).run P w=.ok (.tuple #[e.key,e.val]) w:=by
 have V:es.find? (·.born==e.born)=some e:=by rw[<-Array.find?_toList];exact find_born e es.toList U O
 simp only[Instr.entry,getObj,alV,Sem.run,W,E,Result.andThen,Array.back?_push,bne_self_eq_false,alB,if_false,V];rfl
end Go.Sx
end
