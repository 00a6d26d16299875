/- Part of the proof that the law RefuseLeast returns true and leaves its arguments as they were, for all arguments of bulk at most 1048576 (the Upto form). -/
import Derived.Test.YtaikmgjfkejlkaaGreatS102
import Derived.Laws.IdiomRangeMap
set_option linter.all false
set_option maxHeartbeats 4000000
set_option maxRecDepth 100000
section
namespace Go.Sx
open Go.RowKit
section
variable {P:Program}{F:Nat->Prop}{own:Own}{w:World}
variable {v:Value}
theorem ij{id:Nat}(h:Rel F own w (.os id) v):∃ hd,own id=some hd/\v=hd.v/\pj hd.v=true:=by
 cases h with|os h1 h2=>grind
variable {k:Tag}
theorem apm.blocks{l:List k.T}{bs:List Nat}(h:apm F own w k l v bs):bs=[]\/∃ b,bs=[b]:=by
 rcases h with⟨_,_,_,e⟩ | ⟨b,_,_,_,_,_,e,_⟩ <;>grind
variable {m:List k.T}
theorem apr.app{u:Value}{E:List Nat}(O:pj u=true)(W:apm F own w k m u E):∀ {l:List (List k.T)} {vs:List Value} {bs:List Nat},apr F own w k l vs bs->apr F own w k (l++[m]) (vs++[u]) (bs++E)
 | [],[],bs,h=>by grind [apr]
 |l::Y,v::vs,bs,⟨c1,X,h1,V,h2,U⟩ =>⟨c1,X++E,by grind,V,h2,apr.app O W U⟩
 | [],_::_,_,h=>h.elim|_::_,[],_,h=>h.elim
variable {h:List Ob}{t t2 ty e e2:TypeId}{z:Value}
theorem EA(hp:Hp F own w h){nx:Nat}(hn:ap9 own h nx){i:TypeInfo}(ht:P.underlying t=some (.slice e))(ht2:P.underlying t2=some (.slice e2))(hi:P.info? e=some i)(hz:i.zero=some z)(hsz:i.size=1)(hzs:z.cells.size=1)(hby:1<=i.bytes)
   {l:List (List k.T)}  {hd E:Hd} {id2:Nat} (O:own id2=some E) (ho2:ap h id2=.row k m) (hone:pj E.v=true) {K:List Nat}
  (hob:apF F own w hd (.apw k l)) (hd0:(hd.bs=[]/\K=[id2])\/∃ id,id≠id2/\own id=some hd/\K=[id,id2]) {u:Value} (hu:Rel F own w (.ls 1 [.os id2]) u) (hfit:(l++[m]).length*i.bytes<=dI):
  (l++[m]).length<=aH/\∃ v' hd' w',(Builtin.append_ #[t,t2] ty #[hd.v,u]).run P w=.ok v' w'/\hd'.v=v'/\pj v'=true/\Step F own w (bb h (K.map (λid=>(id,Ob.dead))++[(nx,.apw k (l++[m]))])) (own.move K nx hd') w':=by
 have hlen:(l++[m]).length<=aH:=by
  have:(l++[m]).length<=(l++[m]).length*i.bytes:=amP _ hby;grind [dI,aH]
 refine⟨hlen,?_⟩;have h63:(l++[m]).length<=9223372036854775807:=by grind [aH]
 simp only[alN,alL,alS,alQ]at hlen h63 hfit;obtain⟨hd2',e0,hm⟩:=hp.at ho2 rfl;rw[O]at e0;cases e0;have hK2:id2∈K:=by grind
 have hK:∀ id∈K,∃ hd,own id=some hd:=by
  grind
 have hKb:∀ b∈hd.bs,∃ id∈K,∃ hd,own id=some hd/\b∈hd.bs:=by
  grind
 have X:∀ b∈hd.bs,b ∉ E.bs:=by
  rcases hd0 with⟨h1,rfl⟩ | ⟨id,hne,h1,rfl⟩;grind
  intro b hb hb2;exact hne (hp.inj id id2 hd E b h1 O hb hb2)
 have hlt:∀ b∈hd.bs,b<w.heap.size:=λb hb=>by obtain⟨id,_,hd',h1,h2⟩:=hKb b hb;exact hp.lt id hd' b h1 h2
 have hnd2:E.bs.Nodup:=by
  rcases hm.blocks with e| ⟨b,e⟩ <;>rw[e] <;>simp
 have hsrc:∃ a c,u=.slice a 1 c/\∀ w1:World,w1.heap=w.heap->(Builtin.firstCells i.size 1 u).run P w1=.ok #[E.v] w1:=by
  cases hu with
  |ls c hz h0 h1 h2=>
   rename_i m b o cap;have hm1:m=1:=by simpa using hz
   subst hm1;obtain⟨q1,q2⟩:=h1 0 _ rfl;obtain⟨hd3,q3,q4,q5⟩:=ij (h2 0 _ rfl);rw[O]at q3;cases q3;refine⟨_,_,rfl,λw1 hw1=>?_⟩;have:=run_firstCells_some (P:=P) w1 i.size 1 ⟨b,o,none⟩ 1 cap [E.v] (by simp[hsz]) (λj v hj=>by
    grind [nD,ut])
   omega
 obtain⟨au,cu,hue,Y⟩:=hsrc;have fin:∀ (bn:Own) (w':World),apK F own w bn w'->(∀ b∈E.bs,w'.heap[b]? =w.heap[b]?)->apm F bn w' k m E.v E.bs:=λbn w' g hb=>apm.carry g.apM hb hm;have grow:∀ (a0:Option Addr) (cap:Nat) (bs:List Nat),hd.v=.slice a0 l.length cap->cap<l.length+1->(∀ w1:World,w1.heap=w.heap->(Builtin.firstCells i.size l.length hd.v).run P w1=.ok hd.vs.toArray w1)->hd.vs.length=l.length->bs.Nodup->(∀ b∈bs,b∈hd.bs)->
   apr F own w k l hd.vs bs->
   ∃ v' hd' w',(Builtin.append_ #[t,t2] ty #[hd.v,u]).run P w=.ok v' w'/\hd'.v=v'/\pj v'=true/\Step F own w (bb h (K.map (λid=>(id,Ob.dead))++[(nx,.apw k (l++[m]))])) (own.move K nx hd') w':=by
  intro a0 cap bs hv hcap W hol hbn hbsub hgi;rw[hv]at W;have V:=tP (P:=P) (ty:=ty) ht ht2 hi hz W ⟨au,cu,hue⟩ (news:=[E.v]) Y hcap h63 hfit;rw[<-hv]at V;have hge:=rM w (l.length+1) cap e;let cs:=hd.vs.toArray++[E.v].toArray++Builtin.zeroCells z.cells (grownCap w (l.length+1) cap e - (l.length+1))
  have hcs:cs.size=grownCap w (l.length+1) cap e:=by
   grind [rk]
  refine⟨_,⟨none,_,hd.vs++[E.v],w.heap.size::(bs++E.bs)⟩,_,V,rfl,rfl,kK hp hn K hK _ _ (λb hb=>?_) (λb hb _=>?_) ?_ rfl rfl rfl λbn g=>?_⟩;simp_all <;>grind;exact qD w.drew _ b hb;simp_all;have U:∀ b,b<w.heap.size->(w.drew.alloc (.cells cs e)).heap[b]? =w.heap[b]?:=λb hb=>qD w.drew _ b hb;refine .inr ⟨w.heap.size,0,grownCap w (l.length+1) cap e,cs,e,bs++E.bs,by simp,rfl,?_,kz w.drew _,by omega,by grind,by grind,λq v hq=>?_,?_⟩;rw[ami,amU];refine⟨λhb=>?_,hbn,hnd2,λa ha b hb e=>X a (hbsub a ha) (e▸hb)⟩;rcases amj.1 hb with hb|hb;grind
  exact amI _ (hp.lt id2 E _ O hb);grind
  exact apr.app hone (fin bn _ g λb hb=>U b (hp.lt id2 E b O hb)) (hgi.carry g.apM λb hb=>U b (hlt b (hbsub b hb)))
 rcases hob with⟨hv,rfl,hvs,hbs⟩ | ⟨b,o,cap,cs,tyb,bs,hv,hbs,hbn,h4,h5,h6,h7,h8,h9⟩;refine grow none 0 [] hv (by simp) (λw1 _=>by simp_all [Builtin.firstCells]) (by rw[hvs];rfl) amV (λb hb=>by cases hb) ?_;rw[hvs];rfl;have hbn':=hbn;rw[hbs,ami]at hbn';by_cases hroom:l.length+1<=cap
 obtain⟨cs',w',q1,q2,q3,q4⟩:=jP (P:=P) (b:=b) (o:=o+l.length*i.size) (ty:=tyb) [E.v] 0 w cs h4 (by grind) (λv hv=>by grind [mn]);have V:=wO (P:=P) (ty:=ty) ht ht2 hi (b:=b) (o:=o) (n:=l.length) (cap:=cap) (news:=[E.v]) ⟨au,cu,hue⟩ (Y w rfl) hroom (w':=w') q1;have U:∀ c,c≠b->w'.heap[c]? =w.heap[c]?:=q2.other;rw[<-hv]at V;refine⟨_,⟨none,_,hd.vs++[E.v],b::(bs++E.bs)⟩,w',V,rfl,rfl,kK hp hn K hK _ _ (λc hc=>?_) (λb' hb' hn'=>q2.other b' λe=>hn' (by grind)) (by rw[q2.size];omega) q2.os q2.tape q2.output λbn g=>?_⟩;grind
 refine .inr ⟨b,o,cap,cs',tyb,bs++E.bs,by simp,rfl,?_,q2.here,by omega,by grind,by grind,λq v hq=>?_,?_⟩;grind
 have hvl:=h9.len;rw[amC]at hq;rw[q4,hsz];split at hq
 grind
 rename_i hlt';have:q=hd.vs.length:=by grind
 simp_all;exact apr.app hone (fin bn _ g λc hc=>U c λe=>X b (by simp[hbs]) (e▸hc)) (h9.carry g.apM λc hc=>U c λe=>hbn'.1 (e▸hc));refine grow _ cap bs hv (by omega) (λw1 hw1=>?_) h9.len hbn'.2 (λc hc=>by grind) h9;rw[hv];refine run_firstCells_some (P:=P) w1 i.size l.length ⟨b,o,none⟩ _ cap hd.vs (by rw[h9.len,hsz,anD]) λj v hj=>?_;grind [nD,dY]
def _root_.Go.Sx.Own.fz (own:Own)(id:Nat):Own:=λj=>if j=id then(own j).map (λhd=>{ hd with bs:=[]})else own j
theorem aa8(V:Hp F own w h){id:Nat}{hd:Hd}(E:own id=some hd){b:Nat}(U:b∈hd.bs):¬cH F (own.fz id) b:=by
 rintro (W| ⟨j,X,e,Y⟩);exact V.apart id hd b E U W;simp only[Own.fz]at e;by_cases O:j=id
 grind
 rw[if_neg O]at e;exact O (V.inj j id X hd b e E Y U)
theorem aa9(E:Hp F own w h){id:Nat}{b:Nat}(X:w.heap.size<=b):¬cH F (own.fz id) b:=by
 rintro (U| ⟨j,V,e,W⟩);exact absurd (E.ao1 b U) (by omega);simp only[Own.fz]at e;by_cases O:j=id
 simp_all <;>grind;rw[if_neg O]at e;exact absurd (E.lt j V b e W) (by omega)
theorem Ui {id:Nat}{hd:Hd}(O:own id=some hd){w':World}(E:∀ b,b<w.heap.size->b ∉ hd.bs->w'.heap[b]? =w.heap[b]?)(U:w.heap.size<=w'.heap.size)(q2:w'.os=w.os)(X:w'.tape=w.tape)(q4:w'.output=w.output):Fr { w:=w,own:=own} (own.fz id) w':=by
 refine Fr.ap0 (λj W h1=>?_) (λj W b h1 h2=>?_) (λb Y V=>E b Y λhm=>V ⟨id,hd,O,hm⟩) U q2 X q4;simp only[Own.fz];by_cases e:j=id
 exact⟨{ W with bs:=[]},by grind,rfl,rfl,rfl⟩;exact⟨W,by grind,.refl _⟩;grind [Own.fz]
theorem JX(V:Hp F own w h){id:Nat}{hd:Hd}(E:own id=some hd){w':World}(O:Ob)(fr:Fr { w:=w,own:=own} (own.fz id) w')(U:∀ b,b<w.heap.size->b ∉ hd.bs->w'.heap[b]? =w.heap[b]?)
  (hob:apF F (own.fz id) w' { hd with bs:=[]} O):Step F own w (bb h [(id,O)]) (own.fz id) w':=by
 have hl:id<h.length:=V.dom _ _ E;have hat:∀ j,ap (bb h [(id,O)]) j=if id=j then O else ap h j:=λj=>dy ..;have Y:(bb h [(id,O)]).length=h.length:=by show(cm h id O).length=_;rw[cA,if_pos hl]
 refine⟨V.upd fr.apS (λj=>j=id) (by omega) (λj W=>?_) (λj W X h1=>?_) (λj X _=>?_),fr,λj h1 _=>?_⟩;refine⟨by simp[Own.fz,W],by grind,λhd' b h1 h2=>U b (V.lt j hd' b h1 h2) λhm=>W (V.inj j id hd' hd b h1 E h2 hm)⟩;subst X;simp only[Own.fz,if_pos,E,am2,alK]at h1;grind
 simp_all [Own.fz];grind [Own.fz]
variable {l:List k.T}
theorem apB.rs{o b cap:Nat}{cs:Array Value}(hc:l.length<=cap)(W:l.length<=aH)(U:¬cH F own b)(V:w.heap[b]? =some (.cells cs ty (0,0)))(O:apB F own w k l o cs):Rel F own w (.rs k l) (.slice (some ⟨b,o,none⟩) l.length cap):=by
 refine .rs (λi j=>cs.getD (o+i*aa k+j) undef) hc W (λi x hi j s E=>⟨U,?_⟩) (λi x hi j s E=>?_);obtain⟨u,X,_⟩:=O i x hi j s E;rw[dY V];simp_all;obtain⟨u,X,Y⟩:=O i x hi j s E;simp_all
theorem OI(hp:Hp F own w h){i:TypeInfo}(ht:P.underlying t=some (.slice e))(ht2:P.underlying t2=some (.slice e2))(hi:P.info? e=some i)(hz:i.zero=some z)(hzs:z.cells.size=i.size)(hk:i.size=aa k)(hby:1<=i.bytes)
   {id:Nat} {hd:Hd} (Y:own id=some hd) (hrow:apm F own w k l hd.v hd.bs) (hfit:(l++l).length*i.bytes<=dI):
  (l++l).length<=aH/\∃ v' w',(Builtin.append_ #[t,t2] ty #[hd.v,hd.v]).run P w=.ok v' w'/\Rel F (own.fz id) w' (.rs k (l++l)) v'/\Step F own w (bb h [(id,.fz k l)]) (own.fz id) w':=by
 have hlen:(l++l).length<=aH:=by
  have:(l++l).length<=(l++l).length*i.bytes:=amP _ hby;grind [dI,aH]
 refine⟨hlen,?_⟩;have h63:(l++l).length<=9223372036854775807:=by grind [aH]
 obtain⟨news,hs⟩:=JV (P:=P) hrow;have U:=hs.len;have hlen2:=hlen;rw[alN]at hlen2 h63 hfit;have two:∀ (bn:Own) (w':World),apK F own w bn w'->∀ (o:Nat) (cs:Array Value),(∀ (q:Nat) (x:k.T),l[q]? =some x->∀ (j:Nat) (s:SV),(cellsOf k x)[j]? =some s->∃ u,cs[o+q*aa k+j]? =some u/\Rel F own w s u)->
   (∀ (q:Nat) (x:k.T),l[q]? =some x->∀ (j:Nat) (s:SV),(cellsOf k x)[j]? =some s->∃ u,cs[o+l.length*aa k+(q*aa k+j)]? =some u/\Rel F own w s u)->apB F bn w' k (l++l) o cs:=by
  intro bn w' g o cs a1 a2 q x X j s hj;rw[amC]at X;split at X
  obtain⟨u,e1,e2⟩:=a1 q x X j s hj;exact⟨u,e1,e2.mono g⟩;rename_i hlt;obtain⟨u,e1,e2⟩:=a2 (q - l.length) x X j s hj;refine⟨u,?_,e2.mono g⟩;have hqq:o+q*aa k+j=o+l.length*aa k+((q - l.length)*aa k+j):=by
   have:q=l.length+(q - l.length):=by omega
   grind
  simp_all
 rcases hrow with⟨a,hv,rfl,hbs⟩ | ⟨b,o,cap,cs,tyb,hv,hbs,h3,h4,h5,h6,h7⟩;have hnw:news=[]:=al1 (by simpa using hs.size);subst hnw;have E:=hs.cells w rfl;rw[hv]at U E;have O:=CB (P:=P) (ty:=ty) ht ht2 hi (a0:=a) (cap:=0) U (by rw[hk];exact E);rw[<-hv]at O;have fr:=Ui Y (w':=w) (λ_ _ _=>rfl) (alJ _) rfl rfl rfl;exact⟨_,w,O,by rw[hv];exact .rs0,JX hp Y _ fr (λ_ _ _=>rfl) (by show Rel F (own.fz id) w (.rs k []) hd.v;rw[hv];exact .rs0)⟩;have hnb:¬cH F (own.fz id) b:=aa8 hp Y (by simp[hbs]);have E:=hs.cells;rw[hv]at U E;by_cases hroom:l.length+l.length<=cap
 have hfits:o+l.length*aa k+news.length<=cs.size:=by
  rw[hs.size];have:(l.length+l.length)*aa k<=cap*aa k:=alX _ hroom;grind
 obtain⟨cs',w',q1,q2,q3,q4⟩:=jP (P:=P) (b:=b) (o:=o+l.length*aa k) (ty:=tyb) news 0 w cs h3 (by omega) hs.one;have O:=wO (P:=P) (ty:=ty) ht ht2 hi (b:=b) (o:=o) (n:=l.length) (cap:=cap) U (by rw[hk];exact E w rfl) hroom (w':=w') (by grind);rw[<-hv]at O;have V:∀ W,W<w.heap.size->W ∉ hd.bs->w'.heap[W]? =w.heap[W]?:=λW _ hn=>q2.other W λe=>hn (by grind);have fr:=Ui Y V (by rw[q2.size];omega) q2.os q2.tape q2.output;have hat:=two _ _ fr.apS o cs' (λq x X j s hj=>by
   obtain⟨u',e1,e2⟩:=h7 q x X j s hj;refine⟨u',?_,e2⟩;have hjl:j<aa k:=by grind [bG]
   have hlt:=(alM.1 X).1;have:(q+1)*aa k<=l.length*aa k:=alX _ hlt;grind) (λq x X j s hj=>by
   obtain⟨u',e1,e2⟩:=hs.rel q x X j s hj;refine⟨u',?_,e2⟩;have hb:=(alM.1 e1).1;simp_all)
 refine⟨_,w',O,?_,JX hp Y _ fr V ?_⟩;have:=apB.rs (cap:=cap) (by grind) hlen hnb q2.here hat;grind
 show Rel F (own.fz id) w' (.rs k l) hd.v;rw[hv];exact apB.rs h5 h6 hnb q2.here λq x X=>hat q x (by grind);have O:=tP (P:=P) (ty:=ty) (a0:=some ⟨b,o,none⟩) (n:=l.length) (olds:=news) ht ht2 hi hz (λw1 hw1=>by rw[hk];exact E w1 hw1) U (by rw[hk];exact E) (by omega) h63 hfit;rw[<-hv]at O;have hge:=rM w (l.length+l.length) cap e;let cs2:=news.toArray++news.toArray++Builtin.zeroCells z.cells (grownCap w (l.length+l.length) cap e - (l.length+l.length))
 have V:∀ W,W<w.heap.size->(w.drew.alloc (.cells cs2 e)).heap[W]? =w.heap[W]?:=λW hb'=>qD w.drew _ W hb';have fr:=Ui Y (w':=w.drew.alloc (.cells cs2 e)) (λW hb' _=>V W hb') (by grind) rfl rfl rfl;have hat:=two _ _ fr.apS 0 cs2 (λq x X j s hj=>by
   obtain⟨u',e1,e2⟩:=hs.rel q x X j s hj;grind) (λq x X j s hj=>by
   obtain⟨u',e1,e2⟩:=hs.rel q x X j s hj;refine⟨u',?_,e2⟩;have hb:=(alM.1 e1).1;have hsz:=hs.size;rw[alQ,<-hsz];simp only[cs2];simp_all [al6])
 refine⟨_,_,O,?_,JX hp Y _ fr (λW hb' _=>V W hb') ?_⟩;have:=apB.rs (cap:=grownCap w (l.length+l.length) cap e) (by grind) hlen (aa9 hp (id:=id) (alJ _)) (kz w.drew _) hat;grind
 show Rel F (own.fz id) _ (.rs k l) hd.v;rw[hv];refine apB.rs h5 h6 hnb (by rw[V b (rL h3)];exact h3) λq x X j s hj=>?_;obtain⟨u',e1,e2⟩:=h7 q x X j s hj;exact⟨u',e1,e2.mono fr.apS⟩
theorem OJ(hp:Hp F own w h){Y:TypeId}{i:TypeInfo}(ht:P.underlying t=some (.slice e))(ht2:P.underlying t2=some (.slice Y))(hi:P.info? e=some i)(hz:i.zero=some z)(hzs:z.cells.size=i.size)(hk:i.size=aa k)(hby:1<=i.bytes)
   (hm:m≠[]) {a:Option Addr} {u:Value} {olds news:List Value} (X:Src P F own w k l (.slice a l.length l.length) olds) (hs:Src P F own w k m u news) (O:(l++m).length*i.bytes<=dI):
  (l++m).length<=aH/\∃ v' w',(Builtin.append_ #[t,t2] ty #[.slice a l.length l.length,u]).run P w=.ok v' w'/\Rel F own w' (.rs k (l++m)) v'/\Step F own w (bb h []) own w':=by
 have E:(l++m).length<=aH:=by
  have:(l++m).length<=(l++m).length*i.bytes:=amP _ hby;grind [dI,aH]
 refine⟨E,?_⟩;have W:(l++m).length<=9223372036854775807:=by grind [aH]
 have V:=E;rw[alN]at V W O;have hm1:0<m.length:=amq.2 hm;have hrun:=tP (P:=P) (w:=w) (ty:=ty) (a0:=a) (n:=l.length) (olds:=olds) ht ht2 hi hz (λw1 hw1=>by rw[hk];exact X.cells w1 hw1) hs.len (by rw[hk];exact hs.cells) (by omega) W O;let cs2:=olds.toArray++news.toArray++Builtin.zeroCells z.cells (grownCap w (l.length+m.length) l.length e - (l.length+m.length))
 have U:Below w.heap.size w (w.drew.alloc (.cells cs2 e)):=⟨rfl,rfl,rfl,by show w.heap.size<=(w.heap.push _).size;rw[Array.size_push];omega,λb U=>qD w.drew _ b U⟩;have hge:=rM w (l.length+m.length) l.length e;refine⟨_,_,hrun,?_,hp.below U,(Fr.refl { w:=w,own:=own}).below U,λ_ h1 _=>h1⟩;have g:apK F own w own (w.drew.alloc (.cells cs2 e)):=((Fr.refl { w:=w,own:=own}).below U).apS;have:=apB.rs (F:=F) (own:=own) (k:=k) (l:=l++m) (cap:=grownCap w (l.length+m.length) l.length e) (by grind) E (λX=>by
  rcases X with hf| ⟨j,hj,e,hm⟩;exact absurd (hp.ao1 _ hf) (amI _);exact absurd (hp.lt j hj _ e hm) (amI _)) (kz w.drew (.cells cs2 e)) (o:=0) (λq x hq j s hj=>by
  have o1:=X.size;have o2:=hs.size;have hjl:j<aa k:=by grind [bG]
  rw[amC]at hq;split at hq
  rename_i hlt;obtain⟨u',e1,Y⟩:=X.rel q x hq j s hj;refine⟨u',?_,Y.mono g⟩;have:(q+1)*aa k<=l.length*aa k:=alX _ hlt;have U:=(alM.1 e1).1;rw[alQ];simp only[cs2];rw[al6 (by simp;omega),al6 (by simpa using U)];simpa using e1;rename_i hge;obtain⟨u',e1,Y⟩:=hs.rel (q - l.length) x hq j s hj;refine⟨u',?_,Y.mono g⟩;have U:=(alM.1 e1).1;have hqq:0+q*aa k+j=olds.length+((q - l.length)*aa k+j):=by
   have:q=l.length+(q - l.length):=by omega
   grind
  rw[hqq];simp only[cs2];rw[al6 (by simp;omega),am4 (by simp)];simpa using e1)
 rw[alN]at this;exact this
def CC (F:Nat->Prop)(own:Own)(w:World)(h:List Ob)(run:Result Value)(r:OR):Prop:=
 ∃ c a ups s,r=.eff c a ups s/\(c->a/\∃ u bn w',run=.ok u w'/\Rel F bn w' s u/\Step F own w (bb h ups) bn w')
theorem DK(hp:Hp F own w h){nx:Nat}(hn:ap9 own h nx){ti X te:TI}(ht:jg P t=some ti)(ht2:jg P t2=some X)(hte:jg P ti.elem=some te)(hsl:ti.isSlice=true)(V:X.isSlice=true)
    {u:Value} {bs:List Nat} (Y:apm F own w k l v bs) {K:List Nat} (hK:∀ id∈K,∃ hd,own id=some hd) (hKb:∀ b∈bs,∃ id∈K,∃ hd,own id=some hd/\b∈hd.bs) (hKo:∀ id∈K,∀ hd,own id=some hd->∀ b∈hd.bs,b∈bs) {U:SV} (hsrc:Rel F own w U u) {r:OR} (O:wh te nx (K.map λid=>(id,Ob.dead)) h U (.row k l)=r) (hne:r≠ .bad):
  CC F own w h ((Builtin.append_ #[t,t2] ty #[v,u]).run P w) r:=by
 obtain⟨i,d,z,hi,hd,hz,hq,rfl⟩:=bV ht;obtain⟨i2,d2,z2,hi2,hd2,hz2,hq2,rfl⟩:=bV ht2;obtain⟨ie,de,ze,W,hde,hze,hqe,E⟩:=bV hte;cases d <;>simp[dG]at hsl;cases d2 <;>simp[dG]at V;rename_i e e2;simp only[dG]at W;simp only[wh]at O;cases hc:Nat.beq te.size (aa k)&&Nat.beq (sz te.zero) te.size&&Nat.ble 1 te.bytes with
 |false=>grind
 |true=>
  rw[hc]at O;simp only[cond_true]at O;cases hs:ur k h U with
  |none=>rw[hs]at O;exact absurd O.symm hne
  |some m=>
   rw[hs]at O;simp only[TT]at O;subst O;simp only[alG,qF]at hc;have hes:te.size=ie.size:=by rw[E];rfl
   have heb:te.bytes=ie.bytes:=by rw[E];rfl
   have hez:te.zero=svs ze:=by simp_all [dG]
   have c1:=alH hc.1.1;have c2:=alH hc.1.2;have c3:=Y2 hc.2;obtain⟨news,hsr⟩:=JW (P:=P) hp hsrc hs;refine⟨_,_,_,_,rfl,λhfit=>?_⟩;obtain⟨q1,v',hd',w',q2,q3,q4,q5⟩:=Sl (P:=P) (ty:=ty) hp hn hd hd2 W hze (by grind [svs]) (k:=k) (by omega) (by omega) (.inl Y) hK hKb hKo hsr (by grind);refine⟨q1,v',_,w',q2,?_,q5⟩;rw[<-q3];exact .os (by simp[Own.move]) (by grind)
theorem X7(hp:Hp F own w h){nx:Nat}(hn:ap9 own h nx){ti ti2 te:TI}(ht:jg P t=some ti)(ht2:jg P t2=some ti2)(hte:jg P ti.elem=some te)(hsl:ti.isSlice=true)(X:ti2.isSlice=true)
  {l:List SV} {vs:Array Value} (hl:apx F own w l vs) {r:OR} (E:ml te nx h l=r) (V:r≠ .bad):CC F own w h ((Builtin.append_ #[t,t2] ty vs).run P w) r:=by
 have two:∀ (d s:SV),l=[d,s]->∃ vd vu,vs= #[vd,vu]/\Rel F own w d vd/\Rel F own w s vu:=by
  rintro d s rfl;obtain⟨⟨a⟩⟩:=vs;exact absurd hl.1 (by simp);rename_i x xs;cases xs with
  |nil=>exact absurd hl.1 (by simp)
  |cons y ys=>
   cases ys with
   |nil=>exact⟨x,y,rfl,by simpa using hl.2 0 _ rfl,by simpa using hl.2 1 _ rfl⟩
   |cons _ _=>exact absurd hl.1 (by simp)
 have apw:∀ (e e2:TypeId) (ie:TypeInfo) (ze:Value),P.underlying t=some (.slice e)->P.underlying t2=some (.slice e2)->P.info? e=some ie->ie.zero=some ze->te.size=ie.size->te.bytes=ie.bytes->te.zero=svs ze->True:=λ_ _ _ _ _ _ _ _ _ _ _=>trivial;obtain⟨i,d,z,hi,hd,hz,hq,hti⟩:=bV ht;obtain⟨i2,d2,z2,hi2,W,hz2,hq2,hti2⟩:=bV ht2;obtain⟨ie,de,ze,hie,hde,hze,hqe,hte'⟩:=bV hte;have hes:te.size=ie.size:=by rw[hte'];rfl
 have heb:te.bytes=ie.bytes:=by rw[hte'];rfl
 have hez:te.zero=svs ze:=by simp_all [dG]
 have hsle:∃ e,d=.slice e/\P.info? e=some ie:=by
  subst hti;cases d <;>simp[dG]at hsl;grind [dG]
 have hsle2:∃ e,d2=.slice e:=by
  subst hti2;cases d2 <;>simp[dG]at X;grind
 obtain⟨e,rfl,hie'⟩:=hsle;obtain⟨e2,rfl⟩:=hsle2;unfold ml at E;split at E
 ·rename_i id id2;obtain⟨vd,vu,rfl,U,O⟩:=two _ _ rfl;cases hc:Nat.beq te.size 1&&Nat.beq (sz te.zero) 1&&Nat.ble 1 te.bytes&& !(Nat.beq id id2)with
  |false=>grind
  |true=>
   rw[hc]at E;simp only[cond_true]at E;simp only[alG,qF,al0]at hc;have c1:=alH hc.1.1.1;have c2:=alH hc.1.1.2;have c3:=Y2 hc.1.2;have hne2:id≠id2:=λe=>by simp_all
   cases ho:ap h id with
   |apw k l=>
    rw[ho]at E;simp only[Ee]at E;cases Y:ap h id2 with
    |row k' m'=>
     rw[Y]at E;simp only[TS]at E;cases hcast:zP k k' m' with
     |none=>rw[hcast]at E;exact absurd E.symm V
     |some m=>
      obtain⟨ek,rfl⟩:=sE hcast;subst ek;rw[hcast]at E;simp only[Ed]at E;subst E;obtain⟨hdd,h1,rfl,h2⟩:=ij U;obtain⟨hd',e0,e1⟩:=hp.at ho rfl;rw[h1]at e0;cases e0;have h2id:∃ W,own id2=some W/\pj W.v=true:=by
       cases O with
       |ls c hz h0 q1 q2=>obtain⟨hd3,q3,q4,q5⟩:=ij (q2 0 _ rfl);grind
      obtain⟨hdd2,h3,h4⟩:=h2id;refine⟨_,_,_,_,rfl,λhfit=>?_⟩;obtain⟨q1,v',hd',w',q2,q3,q4,q5⟩:=EA (P:=P) (ty:=ty) hp hn hd W hie' hze (by omega) (by grind [svs]) (by omega) h3 Y h4 e1 (.inr ⟨id,hne2,h1,rfl⟩) O (by grind);refine⟨q1,v',_,w',q2,?_,q5⟩;rw[<-q3];exact .os (by simp[Own.move]) (by grind)
    |_=>rw[Y]at E;exact absurd E.symm V
   |_=>rw[ho]at E;exact absurd E.symm V
 ·rename_i id2;obtain⟨vd,vu,rfl,U,O⟩:=two _ _ rfl;cases hc:Nat.beq te.size 1&&Nat.beq (sz te.zero) 1&&Nat.ble 1 te.bytes with
  |false=>grind
  |true=>
   rw[hc]at E;simp only[cond_true]at E;simp only[alG,qF]at hc;have c1:=alH hc.1.1;have c2:=alH hc.1.2;have c3:=Y2 hc.2;cases Y:ap h id2 with
   |row k m=>
    rw[Y]at E;simp only[XO,Ed]at E;subst E;have:=cG U;subst this;have h2id:∃ W,own id2=some W/\pj W.v=true:=by
     cases O with
     |ls c hz h0 q1 q2=>obtain⟨hd3,q3,q4,q5⟩:=ij (q2 0 _ rfl);grind
    obtain⟨hdd2,h3,h4⟩:=h2id;refine⟨_,_,_,_,rfl,λhfit=>?_⟩;obtain⟨q1,v',hd',w',q2,q3,q4,q5⟩:=EA (P:=P) (ty:=ty) (l:=[]) (hd:=⟨none,.slice none 0 0,[],[]⟩) hp hn hd W hie' hze (by omega) (by grind [svs]) (by omega) h3 Y h4 (.inl ⟨rfl,rfl,rfl,rfl⟩) (.inl ⟨rfl,rfl⟩) O (by grind);refine⟨q1,v',_,w',q2,?_,q5⟩;rw[<-q3];exact .os (by simp[Own.move]) (by grind)
   |_=>rw[Y]at E;exact absurd E.symm V
 rename_i id id2;obtain⟨vd,vu,rfl,U,O⟩:=two _ _ rfl;obtain⟨hdd,h1,rfl,h2⟩:=ij U;cases heq:Nat.beq id id2 with
 |true=>
  have aqs:=alH heq;subst aqs;rw[heq]at E;simp only[cond_true]at E;obtain⟨hdd',h1',rfl,_⟩:=ij O;rw[h1]at h1';cases h1';cases ho:ap h id with
  |row k l=>
   rw[ho]at E;simp only[XP]at E;obtain⟨hd',e0,e1⟩:=hp.at ho rfl;rw[h1]at e0;cases e0;cases hc:Nat.beq te.size (aa k)&&Nat.beq (sz te.zero) te.size&&Nat.ble 1 te.bytes with
   |false=>grind
   |true=>
    rw[hc]at E;simp only[cond_true]at E;subst E;simp only[alG,qF]at hc;have c1:=alH hc.1.1;have c2:=alH hc.1.2;have c3:=Y2 hc.2;refine⟨_,_,_,_,rfl,λhfit=>?_⟩;obtain⟨q1,v',w',q2,q3,q4⟩:=OI (P:=P) (ty:=ty) hp hd W hie' hze (by grind [svs]) (k:=k) (by omega) (by omega) h1 e1 (by grind);grind
  |_=>rw[ho]at E;simp[XP]at E;exact absurd E.symm V
 |false=>
  rw[heq]at E;simp only[cond_false]at E;cases ho:ap h id with
  |row k l=>
   rw[ho]at E;obtain⟨hd',e0,e1⟩:=hp.at ho rfl;rw[h1]at e0;cases e0;exact DK (P:=P) (K:=[id]) hp hn ht ht2 hte hsl X e1 (by grind) (λb hb=>⟨id,by simp,hdd,h1,hb⟩) (λid' hid hd' hh b hb=>by grind) O E V
  |_=>rw[ho]at E;simp[wh]at E;exact absurd E.symm V
 rename_i id src _ _;obtain⟨vd,vu,rfl,U,O⟩:=two _ _ rfl;obtain⟨hdd,h1,rfl,h2⟩:=ij U;cases ho:ap h id with
 |row k l=>
  rw[ho]at E;obtain⟨hd',e0,e1⟩:=hp.at ho rfl;rw[h1]at e0;cases e0;exact DK (P:=P) (K:=[id]) hp hn ht ht2 hte hsl X e1 (by grind) (λb hb=>⟨id,by simp,hdd,h1,hb⟩) (λid' hid hd' hh b hb=>by grind) O E V
 |_=>rw[ho]at E;simp[wh]at E;exact absurd E.symm V
 obtain⟨vd,vu,rfl,U,O⟩:=two _ _ rfl;have:=cG U;subst this;unfold u_ at E;split at E
 rename_i k _;exact DK (P:=P) (K:=[]) (l:=[]) (bs:=[]) hp hn ht ht2 hte hsl X (.inl ⟨none,rfl,rfl,rfl⟩) (by simp) (λb hb=>by cases hb) (λid hid=>by cases hid) O E V;grind
 obtain⟨vd,vu,rfl,U,O⟩:=two _ _ rfl;cases U with
 |e0=>
  unfold u_ at E;split at E
  rename_i k _;exact DK (P:=P) (K:=[]) (l:=[]) (bs:=[]) hp hn ht ht2 hte hsl X (.inl ⟨_,rfl,rfl,rfl⟩) (by simp) (λb hb=>by cases hb) (λid hid=>by cases hid) O E V;grind
 rename_i k l src;obtain⟨vd,vu,rfl,U,O⟩:=two _ _ rfl;cases U with
 |rc U=>
  unfold XQ at E;cases hc:Nat.beq te.size (aa k)&&Nat.beq (sz te.zero) te.size&&Nat.ble 1 te.bytes with
  |false=>grind
  |true=>
   rw[hc]at E;simp only[cond_true]at E;cases hs:ur k h src with
   |none=>rw[hs]at E;exact absurd E.symm V
   |some m=>
    rw[hs]at E;simp only[TU]at E;cases m with
    |nil=>exact absurd E.symm V
    |cons x m=>
     simp only[On,cond_true]at E;subst E;simp only[alG,qF]at hc;have c1:=alH hc.1.1;have c2:=alH hc.1.2;have c3:=Y2 hc.2;obtain⟨news,hsr⟩:=JW (P:=P) hp O hs;obtain⟨olds,hol⟩:=JW (P:=P) hp U (k:=k) (m:=l) (by simp[ur,zP]);refine⟨_,_,_,_,rfl,λhfit=>?_⟩;obtain⟨q1,v',w',q2,q3,q4⟩:=OJ (P:=P) (ty:=ty) hp hd W hie' hze (by grind [svs]) (k:=k) (by omega) (by omega) (by simp) hol hsr (by grind);exact⟨q1,v',own,w',q2,q3,q4⟩
 grind
end
section
variable {P:Program}{F:Nat->Prop}{own:Own}{w:World}
theorem OK:∀ {l m:List SV},u7 l m=true->∀ {vs:Array Value},apx F own w m vs->apx F own w l vs:=by
 have one:∀ {a b:SV} {v:Value},Qk a b=true->Rel F own w b v->Rel F own w a v:=by
  intro a b v h E;unfold Qk at h;split at h
  rename_i k x k' y;simp only[alG]at h;grind [Ow]
  simp_all;exact E;have:=cG E;subst this;exact .rs0;have:=cG E;subst this;exact .rm0;exact E;cases h
 intro l m h vs E;have len:∀ {l m:List SV},u7 l m=true->l.length=m.length:=by
  intro l;induction l with
  |nil=>grind [u7]
  |cons a l U=>intro m h;cases m with
   |nil=>simp[u7]at h|cons b m=>grind [u7]
 have get:∀ {l m:List SV} (j:Nat) (s:SV),u7 l m=true->l[j]? =some s->∃ b,m[j]? =some b/\Qk s b=true:=by
  intro l;induction l with
  |nil=>grind
  |cons a l U=>
   intro m j s h O;cases m with
   |nil=>grind
   |cons b m=>
    grind [u7]
 refine⟨by rw[len h];exact E.1,λj s O=>?_⟩;obtain⟨b,h1,h2⟩:=get j s h O;exact one h2 (E.2 j b h1)
theorem QC {a b:Bool}(h:C2 a b=true):a=b:=by cases a <;>cases b <;>simp[C2]at h |-
variable {t:TypeId}{k:Tag}
theorem Bh{i:TypeInfo}(h:yB P t i=some k):D6 P t i k=true:=by
 grind [yB]
theorem z5{i:TypeInfo}(h:yB P t i=some k):i.size=aa k/\1<=i.bytes/\ka P t=ot k/\∀ z,i.zero=some z->apx F own w (cellsOf k (et k)) z.cells/\D5 z=ot k:=by
 have E:=Bh h;simp only[D6,alG]at E;refine⟨alH E.1.1.1.2,Y2 E.1.1.2,QC E.2,λz O=>?_⟩;grind [OK,xH,QC]
theorem Bi(h:LI P t=some k):∃ i,P.info? t=some i/\yB P t i=some k:=by
 grind [LI]
theorem y9 {d:Int}{o:Option SV}{v:Option Value}(O:∀ s,o=some s->∃ u,v=some u/\Rel F own w s u)(E:o=none->v=none){n:Int}(h:bnd d o=some n):(v=none/\n=d)\/∃ k,v=some (.int k n):=by
 unfold bnd at h;grind [cG]
theorem mR {k:IntKind}{n:Int}{y:Nat}{E:BoundsCode}(h:0<=n/\n<=(y:Int)):(Instr.sliceBound (.int k n) y E).run P w=.ok n.toNat w:=by
 simp_all [Instr.sliceBound,tN]
theorem jQ {len cap:Nat}{lo hi:Option Value}{a b:Int}(E:(lo=none/\a=0)\/∃ k,lo=some (.int k a))(O:(hi=none/\b=(len:Int))\/∃ k,hi=some (.int k b))(h:0<=a/\a<=b/\b<=(len:Int))(hc:len<=cap):
  (Instr.sliceBounds true len cap lo hi none).run P w=.ok (a.toNat,b.toNat,cap) w:=by
 rcases O with⟨rfl,rfl⟩ | ⟨k2,rfl⟩ <;>rcases E with⟨rfl,rfl⟩ | ⟨U,rfl⟩;simp[Instr.sliceBounds];simp[Instr.sliceBounds,mR (P:=P) (w:=w) (k:=U) (n:=a) (y:=len) ⟨h.1,h.2.1⟩];simp[Instr.sliceBounds,mR (P:=P) (w:=w) (k:=k2) (n:=b) (y:=cap) ⟨by omega,by omega⟩];simp[Instr.sliceBounds,mR (P:=P) (w:=w) (k:=k2) (n:=b) (y:=cap) ⟨by omega,by omega⟩,mR (P:=P) (w:=w) (k:=U) (n:=a) (y:=b.toNat) ⟨h.1,by omega⟩]
variable {h:List Ob}{ti te:TI}{v:Value}{lo hi:Option SV}{r:OR}
theorem Sm(hp:Hp F own w h){nx:Nat}(hn:ap9 own h nx)(ht:jg P t=some ti)(hte:jg P ti.elem=some te){s:SV}(hr:Rel F own w s v){vlo X:Option Value}
  (h1:∀ s,lo=some s->∃ u,vlo=some u/\Rel F own w s u) (h1':lo=none->vlo=none) (h2:∀ s,hi=some s->∃ u,X=some u/\Rel F own w s u) (h2':hi=none->X=none)  {vq:Bool} (hvq:vq=true->hi=none) (O:mH ti te.size nx h lo hi vq s=r) (hne:r≠ .bad):
  (∃ c s',r=.chk c s'/\(c->∃ u,(Instr.sliceAt t v vlo X none).run P w=.ok u w/\Rel F own w s' u))\/CC F own w h ((Instr.sliceAt t v vlo X none).run P w) r:=by
 obtain⟨i,d,z,hi',hd,hz,hq,rfl⟩:=bV ht;obtain⟨ie,de,ze,hie,hde,hze,hqe,hte'⟩:=bV hte;have hes:te.size=ie.size:=by rw[hte'];rfl
 have slice:(dG P t i d).isSlice=true->∃ e,d=.slice e/\P.info? e=some ie:=λhs=>by
  cases d <;>simp[dG]at hs;grind [dG]
 cases hr with
 |rs cf q0 q0' q1 q2=>
  rename_i k l b o cap;left;simp only[mH]at O;cases W:(dG P t i d).isSlice&&Nat.beq te.size (aa k)with
  |false=>grind
  |true=>
   rw[W]at O;simp only[cond_true]at O;simp only[alG]at W;obtain⟨e,rfl,V⟩:=slice W.1;have hsz:=alH W.2;unfold XT at O;split at O
   rename_i a c ha hc;refine⟨_,_,O.symm,λE=>?_⟩;have b1:=y9 h1 h1' ha;have b2:=y9 h2 h2' hc;have U:=jQ (P:=P) (w:=w) b1 b2 E q0;have hlen:((l.take c.toNat).drop a.toNat).length=c.toNat - a.toNat:=by simp;omega
   refine⟨.slice (if cap=a.toNat then some ⟨b,o,none⟩else some ⟨b,o+a.toNat*ie.size,none⟩) (c.toNat - a.toNat) (cap - a.toNat),?_,?_⟩;simp only[Instr.sliceAt,Instr.slice,al9,run_underlying hd,alY,U,dJ V,am3,am2,nD];rw[<-hlen];by_cases hca:cap=a.toNat
   have:(l.take c.toNat).drop a.toNat=[]:=al1 (by omega);rw[this];exact .rs0;rw[if_neg hca];refine Rel.rs (F:=F) (own:=own) (w:=w) (λi j=>cf (a.toNat+i) j) (by omega) (by omega) (λi x hx j s hj=>?_) (λi x hx j s hj=>?_);simp_all <;>grind;grind
   grind
 |rs0=>
  rename_i k a0 cap;left;simp only[mH]at O;cases W:(dG P t i d).isSlice&&Nat.beq te.size (aa k)with
  |false=>grind
  |true=>
   rw[W]at O;simp only[cond_true]at O;simp only[alG]at W;obtain⟨e,rfl,V⟩:=slice W.1;unfold XT at O;split at O
   rename_i a c ha hc;refine⟨_,_,O.symm,λE=>?_⟩;have b1:=y9 h1 h1' ha;have b2:=y9 h2 h2' hc;have U:=jQ (P:=P) (w:=w) (cap:=cap) b1 b2 E (ame _);simp only[alS,an_]at E;have ea:a=0:=by omega
   have ec:c=0:=by omega
   subst ea;subst ec;refine⟨_,by
    simp only[Instr.sliceAt,Instr.slice,al9,run_underlying hd,alY];simp only[alS,anE]at U;simp only[U,alY,al9,dJ V,am3];rfl,?_⟩
   simp only[List.take_nil,List.drop_nil];exact .rs0;grind
 |os g1 g2=>
  rename_i id hdd;simp only[mH]at O;cases W:(dG P t i d).isSlice with
  |false=>grind
  |true=>
   rw[W]at O;simp only[cond_true]at O;obtain⟨e,rfl,V⟩:=slice W;cases vq with
   |true=>
    left;simp only[cond_true]at O;cases ho:ap h id with
    |row k l=>
     rw[ho]at O;simp only[TW]at O;cases hb2:Nat.beq te.size (aa k)with
     |false=>grind
     |true=>
      rw[hb2]at O;simp only[cond_true]at O;unfold TV at O;split at O
      rename_i a ha;refine⟨_,_,O.symm,λE=>?_⟩;obtain⟨hd',e0,e1⟩:=hp.at ho rfl;rw[g1]at e0;cases e0;have b1:=y9 h1 h1' ha;have b2:(X=none/\(l.length:Int)=(l.length:Int))\/∃ k,X=some (.int k (l.length:Int)):=.inl ⟨h2' (hvq rfl),rfl⟩;have hcnd':0<=a/\a<=(l.length:Int)/\(l.length:Int)<=(l.length:Int):=⟨E.1,E.2,amD _⟩;rcases e1 with⟨a0,m1,rfl,m3⟩ | ⟨b,o,cap,cs,ty,m1,m2,m3,m4,m5,m6,m7⟩;simp only[alS,an_]at E;have ea:a=0:=by omega
      subst ea;have U:=jQ (P:=P) (w:=w) (cap:=0) b1 b2 hcnd' (ame _);simp only[alS,anE,an_]at U;refine⟨.slice a0 0 0,?_,Rel.vw (lo:=0) (hi:=(([]:List k.T).length:Int)) (cap:=0) (a:=a0) g1 (.inl (by simp)) (by simp)⟩;simp_all [Instr.sliceAt,Instr.slice,run_underlying,dJ];have U:=jQ (P:=P) (w:=w) b1 b2 hcnd' m5;refine⟨.slice (if cap=a.toNat then some ⟨b,o,none⟩else some ⟨b,o+a.toNat*ie.size,none⟩) ((l.length:Int).toNat - a.toNat) (cap - a.toNat),?_,Rel.vw g1 ?_ (by omega)⟩;rw[m1];simp only[Instr.sliceAt,Instr.slice,al9,run_underlying hd,alY,U,dJ V,am3,am2,nD];by_cases hca:cap=a.toNat
      exact .inl (by omega);rw[if_neg hca];exact .inr ⟨b,o,_,cap,m1,by omega,by rw[hes]⟩;grind
    |_=>rw[ho]at O;exact absurd O.symm hne
   |false=>
   right;simp only[cond_false]at O;cases ho:ap h id with
   |row k l=>
    rw[ho]at O;simp only[XV]at O;cases hb2:Nat.beq te.size (aa k)with
    |false=>grind
    |true=>
     rw[hb2]at O;simp only[cond_true]at O;have hsz:=alH hb2;unfold XU at O;split at O
     rename_i a c ha hc;subst O;obtain⟨hd',e0,e1⟩:=hp.at ho rfl;rw[g1]at e0;cases e0;have b1:=y9 h1 h1' ha;have b2:=y9 h2 h2' hc;refine⟨_,_,_,_,rfl,λE=>⟨trivial,?_⟩⟩;have hK:∀ id'∈[id],∃ hd,own id'=some hd:=by grind
     have hlen:((l.take c.toNat).drop a.toNat).length=c.toNat - a.toNat:=by simp;omega
     rcases e1 with⟨a0,m1,rfl,m3⟩ | ⟨b,o,cap,cs,ty,m1,m2,m3,m4,m5,m6,m7⟩;simp only[alS,an_]at E;have ea:a=0:=by omega
     have ec:c=0:=by omega
     subst ea;subst ec;have U:=jQ (P:=P) (w:=w) (cap:=0) b1 b2 E (ame _);simp only[alS,anE]at U;refine⟨.slice a0 0 0,_,w,?_,?_,kK hp hn [id] hK ⟨none,.slice a0 0 0,[],[]⟩ _ (λb W=>by simp at W) (λ_ _ _=>rfl) (alJ _) rfl rfl rfl λbn g=>.inl ⟨a0,rfl,rfl,rfl⟩⟩;simp_all [Instr.sliceAt,Instr.slice,run_underlying,dJ];have:=Rel.os (F:=F) (own:=own.move [id] nx ⟨none,.slice a0 0 0,[],[]⟩) (w:=w) (id:=nx) (hd:=⟨none,.slice a0 0 0,[],[]⟩) (by simp[Own.move]) rfl;exact this;have U:=jQ (P:=P) (w:=w) b1 b2 E m5;have Y:(Instr.sliceAt t hdd.v vlo X none).run P w=.ok (.slice (if cap=a.toNat then some ⟨b,o,none⟩else some ⟨b,o+a.toNat*ie.size,none⟩) (c.toNat - a.toNat) (cap - a.toNat)) w:=by
      rw[m1];simp only[Instr.sliceAt,Instr.slice,al9,run_underlying hd,alY,U,dJ V,am3,am2,nD]
     by_cases hca:cap=a.toNat
     have aq4:(l.take c.toNat).drop a.toNat=[]:=al1 (by omega);rw[if_pos hca,show c.toNat - a.toNat=0 by omega,show cap - a.toNat=0 by omega]at Y;refine⟨_,_,w,Y,?_,kK hp hn [id] hK ⟨none,.slice (some ⟨b,o,none⟩) 0 0,[],[]⟩ _ (λb W=>by simp at W) (λ_ _ _=>rfl) (alJ _) rfl rfl rfl λbn g=>.inl ⟨_,rfl,aq4,rfl⟩⟩;exact Rel.os (F:=F) (own:=own.move [id] nx ⟨none,.slice (some ⟨b,o,none⟩) 0 0,[],[]⟩) (w:=w) (id:=nx) (hd:=⟨none,.slice (some ⟨b,o,none⟩) 0 0,[],[]⟩) (by simp[Own.move]) rfl;rw[if_neg hca,<-hlen]at Y;refine⟨_,_,w,Y,Rel.os (F:=F) (own:=own.move [id] nx ⟨none,.slice (some ⟨b,o+a.toNat*ie.size,none⟩) ((l.take c.toNat).drop a.toNat).length (cap - a.toNat),[],[b]⟩) (w:=w) (id:=nx) (hd:=⟨none,.slice (some ⟨b,o+a.toNat*ie.size,none⟩) ((l.take c.toNat).drop a.toNat).length (cap - a.toNat),[],[b]⟩) (by simp[Own.move]) rfl,kK hp hn [id] hK _ _ (λb' hb'=>by grind) (λ_ _ _=>rfl) (alJ _) rfl rfl rfl λbn g=>.inr ⟨b,o+a.toNat*ie.size,cap - a.toNat,cs,ty,rfl,rfl,m3,?_,by omega,by omega,λi x hx j s hj=>?_⟩⟩;rw[<-hes,hsz];have:cap*aa k=a.toNat*aa k+(cap - a.toNat)*aa k:=by rw[<-aof];grind
     omega;obtain⟨e1,e2⟩:=yF hx;obtain⟨u,n1,n2⟩:=m7 _ x e1 j s hj;refine⟨u,?_,n2.mono g⟩;grind
     grind
   |_=>rw[ho]at O;exact absurd O.symm hne
 |_=>simp only[mH]at O;exact absurd O.symm hne
theorem Uj(ht:jg P t=some ti)(hte:jg P ti.elem=some te){s sm:SV}{vm:Value}(hr:Rel F own w s v)(hm:Rel F own w sm vm){U Y:Option Value}
  (V:lo=none->U=none) (h2:∀ s,hi=some s->∃ u,Y=some u/\Rel F own w s u)  (E:Ef ti lo hi sm s=r) (hne:r≠ .bad):
  ∃ c s',(r=.val s'/\c\/r=.chk c s')/\(c->∃ u,(Instr.sliceAt t v U Y (some vm)).run P w=.ok u w/\Rel F own w s' u):=by
 obtain⟨i,d,z,hi',hd,hz,hq,rfl⟩:=bV ht;obtain⟨ie,de,ze,hie,hde,hze,hqe,hte'⟩:=bV hte;have slice:(dG P t i d).isSlice=true->∃ e,d=.slice e/\P.info? e=some ie:=λhs=>by
  cases d <;>simp[dG]at hs;grind [dG]
 unfold Ef at E;split at E
 ·rename_i k l;unfold ZP at E;split at E
  ·rename_i a b;cases O:(dG P t i d).isSlice with
   |false=>grind
   |true=>
    rw[O]at E;simp only[cond_true]at E;obtain⟨e,rfl,W⟩:=slice O;obtain⟨u,rfl,e3⟩:=h2 _ rfl;obtain rfl:=V rfl;obtain rfl:=cG hm;obtain rfl:=cG e3;refine⟨_,_,.inr E.symm,λ⟨ha,O⟩ =>?_⟩;subst ha;subst O;have X:∃ a cap,v=.slice a l.length cap/\l.length<=cap/\Rel F own w (.rs k l) (.slice a l.length l.length):=by
     cases hr with
     |rs c q0 q0' q1 q2=>exact⟨_,_,rfl,q0,.rs c (alJ _) q0' q1 q2⟩|rs0=>exact⟨_,_,rfl,ame _,.rs0⟩
    obtain⟨a,cap,rfl,hcl,ap6⟩:=X;have hbd:(Instr.sliceBounds true l.length cap none (some (.int .i64 l.length)) (some (.int .i64 l.length))).run P w=.ok (0,l.length,l.length) w:=by
     simp_all [Instr.sliceBounds,mR]
    refine⟨.slice a l.length l.length,?_,.rc ap6⟩;simp_all [Instr.sliceAt,Instr.slice,run_underlying,dJ,Addr.add]
  grind
 unfold ZO at E;split at E
 cases O:(dG P t i d).isSlice with
 |false=>grind
 |true=>
  rw[O]at E;simp only[cond_true]at E;obtain⟨e,rfl,W⟩:=slice O;obtain⟨u,rfl,e3⟩:=h2 _ rfl;obtain rfl:=V rfl;obtain rfl:=cG hr;obtain rfl:=cG hm;obtain rfl:=cG e3;refine⟨True,_,.inl ⟨E.symm,trivial⟩,λ_=>⟨.slice none 0 0,?_,.v _⟩⟩;have hbd:(Instr.sliceBounds true 0 0 none (some (.int .i64 0)) (some (.int .i64 0))).run P w=.ok (0,0,0) w:=by
   rfl
  simp_all [Instr.sliceAt,Instr.slice,run_underlying,dJ]
 grind
theorem aa_(hp:Hp F own w h){nx:Nat}(hn:ap9 own h nx)(ht:jg P t=some ti)(hte:jg P ti.elem=some te)(hsl:ti.isSlice=true){sl sc:SV}{vl vc:Value}(hrl:Rel F own w sl vl)(hrc:Rel F own w sc vc)(he:mkS nx te sl sc=r)(hne:r≠ .bad):
  CC F own w h ((Instr.makeSlice t vl vc).run P w) r:=by
 obtain⟨i,d,z,hi,hd,hz,hq,rfl⟩:=bV ht;obtain⟨W,de,ze,X,hde,V,hqe,E⟩:=bV hte;cases d <;>simp[dG]at hsl;rename_i e;simp only[dG]at X;unfold mkS at he;split at he
 rename_i n c;have el:=cG hrl;have ec:=cG hrc;subst el;subst ec;unfold mkT at he;split at he
 rename_i k O;subst he;have U:yB P e W=some k:=by rw[E]at O;exact O
 obtain⟨t1,t2,t3,t4⟩:=z5 (F:=F) (own:=own) (w:=w) U;have heb:te.bytes=W.bytes:=by rw[E];rfl
 refine⟨_,_,_,_,rfl,λ⟨hc1,hc2,hc3⟩ =>?_⟩;subst hc1;rw[heb]at hc3;have hnb:n<=n*(W.bytes:Int):=by
  have:n*1<=n*(W.bytes:Int):=anr (by omega) hc2;omega
 have hnm:n<=(aH:Int):=by grind [dI,aH]
 refine⟨hnm,?_⟩;have hrun:=run_make (P:=P) w t e W ze hd X V .i64 .i64 n n hc2 (amD _) (by grind [dI]) (by grind [aH]);have Y:=(t4 ze V).1;have hzs:ze.cells.size=aa k:=by rw[Y.1,bG]
 refine⟨_,_,_,hrun,Rel.os (F:=F) (id:=nx) (hd:=⟨none,.slice (some ⟨w.heap.size,0,none⟩) n.toNat n.toNat,[],[w.heap.size]⟩) (Own.apy _ _ _) rfl,uu hp hn (w1:=w) ⟨rfl,rfl,rfl,rfl⟩ _ _ _ rfl λbn g=>.inr ⟨w.heap.size,0,n.toNat,_,e,by simp,rfl,kz _ _,?_,by simp,by simp;omega,λq x hx j s hj=>?_⟩⟩;simp_all [size_madeCells];have hxd:x=et k:=by
  grind
 subst hxd;have hjl:j<aa k:=by grind [bG]
 have hql:q<n.toNat:=by grind
 have hlt:q*aa k+j<n.toNat*aa k:=by
  have:(q+1)*aa k<=n.toNat*aa k:=alX _ hql;grind
 refine⟨ze.cells.getD j undef,?_,(Y.2 j s hj).mono g⟩;simp_all [aom,madeCells];grind
 grind
theorem X8(hp:Hp F own w h){ty:TypeId}(ht:jg P t=some ti){l:List SV}{vs:Array Value}(hl:apx F own w l vs)(E:ua ti h l=r)(X:r≠ .bad):
  ∃ (n:Nat),((∃ c,r=.asm c (.i n)/\c)\/r=.val (.i n))/\(Builtin.len_ #[t] ty vs).run P w=.ok (.int .i64 n) w:=by
 obtain⟨i,d,z,hi,hd,hz,hq,rfl⟩:=bV ht;have hsl:(dG P t i d).isSlice=true->∀ (a0:Option Addr) (n cap:Nat),(Builtin.len_ #[t] ty #[.slice a0 n cap]).run P w=.ok (.int .i64 n) w:=by
  intro hs a0 n cap;cases d <;>simp[dG]at hs;simp[Builtin.len_,run_underlying hd,goInt]
 have one:∀ s,l=[s]->∃ v,vs= #[v]/\Rel F own w s v:=by
  rintro s rfl;obtain⟨⟨a⟩⟩:=vs;exact absurd hl.1 (by simp);rename_i x xs;cases xs with
  |nil=>exact⟨x,rfl,by simpa using hl.2 0 _ rfl⟩
  |cons _ _=>exact absurd hl.1 (by simp)
 unfold ua at E;split at E
 rename_i k m;obtain⟨v,rfl,U⟩:=one _ rfl;cases O:(dG P t i d).isSlice with
 |false=>grind
 |true=>
  rw[O]at E;simp only[cond_true]at E;subst E;cases U <;>grind
 obtain⟨v,rfl,U⟩:=one _ rfl;cases O:(dG P t i d).isSlice with
 |false=>grind
 |true=>
  rw[O]at E;simp only[cond_true]at E;grind [cG]
 obtain⟨v,rfl,U⟩:=one _ rfl;cases O:(dG P t i d).isSlice with
 |false=>grind
 |true=>
  rw[O]at E;simp only[cond_true]at E;subst E;cases U <;>grind
 obtain⟨v,rfl,U⟩:=one _ rfl;cases O:(dG P t i d).isSlice with
 |false=>grind
 |true=>
  rw[O]at E;simp only[cond_true]at E;subst E;cases U with
  |rc U=>
   refine⟨_,.inl ⟨_,rfl,?_⟩,hsl O _ _ _⟩;generalize hvv:Value.slice _ _ _=vv at U;cases U <;>grind
 rename_i id;obtain⟨v,rfl,U⟩:=one _ rfl;cases O:(dG P t i d).isSlice with
 |false=>
  rw[O]at E;simp only[cond_false]at E;obtain⟨hdd,h1,rfl,_⟩:=ij U;cases V:ap h id with
  |mp kk vk m ap1=>
    rw[V]at E;simp only[aaV]at E;cases d with
    |map a b0=>
     cases hk:(dG P t i (.map a b0)).mkt.isSome&&noE ap1 with
     |false=>grind
     |true=>
      rw[hk]at E;simp only[cond_true]at E;subst E;rw[alG]at hk;obtain⟨hd',W,b,es,clk,m1,m2,Y,m4,_⟩:=hp.at V rfl;rw[h1]at W;cases W;rw[kc hk.2]at m4;have hg:(getObj b).run P w=.ok (.map es clk) w:=by simp[getObj,Sem.run,Y]
      have hn:es.size=m.length:=m4.1;refine⟨m.length,.inr rfl,?_⟩;simp_all [Builtin.len_,run_underlying,goInt]
    |_=>exact absurd E.symm X
  |_=>rw[V]at E;exact absurd E.symm X
 |true=>
  rw[O]at E;simp only[cond_true]at E;obtain⟨hdd,h1,rfl,_⟩:=ij U;cases V:ap h id with
  |row k m=>
   rw[V]at E;simp only[XN]at E;subst E;obtain⟨hd',W,e1⟩:=hp.at V rfl;rw[h1]at W;cases W;rcases e1 with⟨a0,m1,rfl,Y⟩ | ⟨b,o,cap,cs,ty,m1,m2,Y,m4,m5,m6,m7⟩ <;>grind
  |apw k m=>
   rw[V]at E;simp only[XN]at E;subst E;obtain⟨hd',W,e1⟩:=hp.at V rfl;rw[h1]at W;cases W;rcases e1 with⟨m1,rfl,Y⟩ | ⟨b,o,cap,cs,ty,bs,m1,m2,Y,m4,m5,m6,m7,m8,m9⟩ <;>grind
  |_=>rw[V]at E;exact absurd E.symm X
 rename_i id q;obtain⟨v,rfl,U⟩:=one _ rfl;cases O:(dG P t i d).isSlice with
 |false=>grind
 |true=>
  rw[O]at E;simp only[cond_true]at E;cases V:ap h id with
  |apw k m=>
   rw[V]at E;simp only[aaU]at E;subst E;obtain⟨hd',W,e1⟩:=hp.at V rfl;cases U with
   |gr g1 g2 g3=>
    rw[g1]at W;cases W;rcases e1 with⟨_,_,m1,_⟩ | ⟨b,o,cap,cs,ty,bs,m1,m2,Y,m4,m5,m6,m7,m8,m9⟩;grind
    obtain⟨b1,k1,k2,k3,k4⟩:=m9.get g2;rcases k3 with⟨a0,n1,n2,_⟩ | ⟨b2,o2,cap2,cs2,ty2,n1,n2,n3,n4,n5,n6,n7⟩ <;>grind
  |_=>rw[V]at E;exact absurd E.symm X
 rename_i s m;obtain⟨v,rfl,U⟩:=one _ rfl;cases O:(dG P t i d).isSlice&&Nat.ble 1 s with
 |false=>grind
 |true=>
  rw[O]at E;simp only[cond_true]at E;subst E;simp only[alG]at O;have hs1:=Y2 O.2;cases U with
  |ls c qz q0 q1 q2=>
   rw[qF,<-qz,Nat.mul_div_cancel _ hs1];exact⟨_,.inr rfl,hsl O.1 _ _ _⟩
 grind
end
section
variable {κ υ:Type}[DecidableEq κ]
def ol:List (κ×υ)->κ->Option Nat
 | [],_=>none|(a,_)::r,x=>if x=a then some 0 else(ol r x).map (· +1)
theorem uA {x:κ}:∀ {l:List (κ×υ)},ol l x=none->iv l x=none/\(∀ y,tA l x y=l++[(x,y)])/\Oc l x=l.length
 | [],_=>⟨rfl,λ_=>rfl,rfl⟩
 |(a,b)::r,h=>by
  simp only[ol]at h;split at h
  cases h;rename_i E;have h':ol r x=none:=by simp_all
  obtain⟨h1,h2,O⟩:=uA h';grind [iv,tA,Oc]
theorem sb {x:κ}:∀ {l:List (κ×υ)} {i:Nat},ol l x=some i->∃ y,l[i]? =some (x,y)/\iv l x=some y/\(∀ z,tA l x z=l.set i (x,z))/\Oc l x=i
 | [],i,h=>by simp[ol]at h
 |(a,b)::r,i,h=>by
  simp only[ol]at h;split at h
  rename_i W;simp at h;subst h;simp_all [iv,tA,Oc];rename_i O;cases E:ol r x with
  |none=>grind
  |some j=>
   rw[E]at h;simp only[am2,alK]at h;subst h;obtain⟨y,h1,h2,U,V⟩:=sb E;grind [iv,tA,Oc]
end
section
variable {P:Program}{F:Nat->Prop}{own:Own}{w:World}
theorem JY (a b:ByteArray):(a==b)=true↔a=b:=by
 obtain⟨x⟩:=a;obtain⟨y⟩:=b;show(x==y)=true↔_;simp
theorem vj (k:Tag)(x:k.T):ul (d_ k) (cellsOf k x)=true:=by
 cases k <;>first|rfl|(cases x <;>rfl)
theorem EB:∀ {a b:List Nat},D7 a b=true->a=b
 | [],[],_=>rfl
 |x::a,y::b,h=>by simp only[D7,alG]at h;rw[alH h.1,EB h.2]
 | [],_::_,h=>by simp[D7]at h
 |_::_,[],h=>by simp[D7]at h
theorem L8:∀ {ks:List Kd} {l m:List SV},ul ks l=true->ul ks m=true->(∀ c∈ks.map jf,c≠0)->∃ b,eqL (ks.map jf) l m=some b/\(b=true↔l=m)
 | [],l,m,h1,h2,_=>by
  have e1:=uz h1;have Y:=uz h2;subst e1;subst Y;exact⟨true,rfl,by simp⟩
 |k::ks,l,m,h1,h2,hc=>by
  obtain⟨x,r,rfl,X,f2⟩:=pw h1;obtain⟨y,s,rfl,O,g2⟩:=pw h2;obtain⟨b,e1,Y⟩:=L8 f2 g2 (λc V=>hc c (by simp[V]));have W:=hc (jf k) (by simp);have:∃ U,eqV (jf k) x y=some U/\(U=true↔x=y):=by
   cases k with
   |s=>
    have E:=Ir X;have hy:=Ir O;rw[<-E,<-hy];refine⟨toS x==toS y,by rfl,by simp[JY]⟩
   |b=>
    have E:=Is X;have hy:=Is O;rw[<-E,<-hy];refine⟨toB x==toB y,by rfl,by simp⟩
   |n k=>
    have E:=It X;have hy:=It O;rw[<-E,<-hy];refine⟨toI x==toI y,by simp[eqV,jf],by simp⟩
   |r k=>simp[jf]at W|m a b=>simp[jf]at W|f=>simp[jf]at W
  obtain⟨U,e3,e4⟩:=this;simp_all [eqL,yY]
variable {t:TypeId}{k:Tag}
theorem Bj(h:LJ P t=some k):∃ i d,P.info? t=some i/\yB P t i=some k/\P.underlying t=some d/\ka P t=ot k/\
  ((ka P t=true/\(d_ k).map jf=nO P t d/\nO P t d≠[])\/(ka P t=false/\(d_ k).map jf=[cq (some d)]/\cq (some d)≠0)):=by
 unfold LJ at h;cases V:LI P t with
 |none=>grind
 |some k'=>
  rw[V]at h;simp only at h;cases E:Oa P t k' with
  |false=>grind
  |true=>
   rw[E]at h;simp only[cond_true,alK]at h;subst h;obtain⟨i,hi,O⟩:=Bi V;unfold Oa at E;split at E
   rename_i d hd;refine⟨i,d,hi,O,hd,(z5 (F:=λ_=>False) (own:=dv) (w:=default) O).2.2.1,?_⟩;cases U:ka P t with
   |true=>
    rw[U]at E;simp only[cond_true,alG]at E;have e:=EB E.1;refine .inl ⟨rfl,e,λW=>?_⟩;simp_all
   |false=>
    rw[U]at E;simp only[cond_false,alG]at E;exact .inr ⟨rfl,EB E.1,by have:=Y2 E.2;omega⟩
   cases E
variable {d:TypeDesc}
theorem EC(c:Nat)(h:c∈nO P t d):c≠0:=by
 unfold nO at h;split at h
 rename_i fs;cases E:!P.stoodInHeld t&& !P.eqGuardType P.depth t&&eqFields P 0 fs.toList with
 |false=>grind
 |true=>
  rw[E]at h;simp only[cond_true]at h;simp only[alG]at E;have:∀ (l:List Field) (n:Nat),eqFields P n l=true->c∈l.map (λf=>cq (P.underlying f.type))->c≠0:=by
   intro l;induction l with
   |nil=>grind
   |cons f l U=>
    intro n O hm;simp only[eqFields,alG]at O;simp only[amu,alV]at hm;rcases hm with rfl|hm;have:=Y2 O.1.2;omega;grind
  grind
 rename_i n e;cases E:!P.eqGuardType P.depth t&&Nat.blt 0 (cq (P.underlying e))&&Nat.beq (nX P e) 1 with
 |false=>grind
 |true=>
  rw[E]at h;simp only[cond_true]at h;simp only[alG]at E;have:=List.eq_of_mem_replicate h;have h2:=Y2 E.1.2;omega
 cases h
theorem ED {d:Nat}{e:TypeId}(hc:cq (P.underlying e)≠0):∀ (n m:Nat) (E O:List SV) (xs U:Array Value) (b:Bool),eqL (List.replicate n (cq (P.underlying e))) E O=some b->m+E.length<=xs.size->m+O.length<=U.size->
  (∀ (j:Nat) (s:SV),E[j]? =some s->Rel F own w s (xs.getD (m+j) undef))->(∀ (j:Nat) (s:SV),O[j]? =some s->Rel F own w s (U.getD (m+j) undef))->
  (Op.eqItems (d+1) e 1 xs U (List.range' m n)).run P w=.ok b w
 |0,m,E,O,xs,U,b,h,_,_,_,_=>by
  cases E <;>cases O <;>simp[eqL]at h;simp_all [Op.eqItems]
 |n+1,m,E,O,xs,U,b,h,h1,h2,h3,h4=>by
  cases E with
  |nil=>simp[eqL,an6]at h
  |cons x E=>
   cases O with
   |nil=>simp[eqL,an6]at h
   |cons y O=>
    simp only[an6,eqL]at h;cases V:eqV (cq (P.underlying e)) x y with
    |none=>grind [yY]
    |some b1=>
     cases X:eqL (List.replicate n (cq (P.underlying e))) E O with
     |none=>grind [yY]
     |some Y=>
      rw[V,X]at h;simp only[yY,alK]at h;subst h;simp only[alL]at h1 h2;have e1:=vh (P:=P) (w:=w) hc (xs:=xs) (n:=m) (by omega);have e2:=vh (P:=P) (w:=w) hc (xs:=U) (n:=m) (by omega);have W:=OG (P:=P) (h3 0 x rfl) (h4 0 y rfl) V d;simp only[amK]at W;rw[am9];simp only[Op.eqItems,anD,al9,e1,e2,alY,W];cases b1 with
      |false=>simp
      |true=>
       have ih:=ED (d:=d) hc n (m+1) E O xs U Y X (by omega) (by omega) (λj s hj=>by have:=h3 (j+1) s (by grind);grind) (λj s hj=>by have:=h4 (j+1) s (by grind);grind);grind
theorem L9(hd:P.underlying t=some d){U Y:List SV}{xs E:Array Value}(O:apx F own w U xs)(hy:apx F own w Y E){b:Bool}
  (hc:nO P t d≠[]) (h:eqL (nO P t d) U Y=some b):(Op.equal t (.agg xs) (.agg E)).run P w=.ok b w/\P.eqGuardType P.depth t=false:=by
 cases d with
 |struct fs=>exact L6 hd O hy hc h
 |array n e=>
  simp only[nO]at hc h;cases W:!P.eqGuardType P.depth t&&Nat.blt 0 (cq (P.underlying e))&&Nat.beq (nX P e) 1 with
  |false=>grind
  |true=>
   rw[W]at h;simp only[cond_true]at h;simp only[alG,al0]at W;obtain⟨⟨q1,q2⟩,q3⟩:=W;refine⟨?_,q1⟩;have h1:=alH q3;have hi:∃ i,P.info? e=some i/\i.size=1:=by
    grind [nX]
   obtain⟨i,hi,his⟩:=hi;unfold Op.equal Op.maxDepth;rw[run_equalIn_array (w:=w) 9999 xs E hd hi];have V:P.cellsOf e=1:=by grind [Program.cellsOf]
   rw[V,List.range_eq_range'];exact ED (d:=9998) (by have:=Y2 q2;omega) n 0 U Y xs E b h (by rw[O.1];omega) (by rw[hy.1];omega) (λj s X=>by simpa using O.2 j s X) (λj s X=>by simpa using hy.2 j s X)
 |_=>exact absurd rfl hc
theorem xJ{x:k.T}(h:ot k=true):svT k x=.agg (cellsOf k x):=by grind [svT]
theorem tQ {l:List SV}{v:Value}(h:Rel F own w (.agg l) v):∃ vs,v=.agg vs/\apx F own w l vs:=by
 cases h with|agg E h1=>exact⟨_,rfl,E,h1⟩
theorem z6{x:k.T}(h:ot k=false){s:SV}(E:cellsOf k x=[s]):svT k x=s:=by unfold svT;rw[h,E];rfl
theorem OL{k:Kd}{O V:SV}(hc:jf k=cq (some d))(h0:jf k≠0)(fx:fit k O=true)(fy:fit k V=true){U W:Value}(E:Rel F own w O U)(hy:Rel F own w V W):
  ∃ b,Instr.sameNow d U W=some b/\(b=true↔O=V)/\(b=true->U=W):=by
 cases k with
 |s=>
  have Y:=Ir fx;have X:=Ir fy;rw[<-Y]at E |-;rw[<-X]at hy |-;have:=cG E;have:=cG hy;subst U;subst W;cases d <;>simp[jf,cq]at hc;exact⟨toS O==toS V,rfl,by simp[JY],by simp[JY]⟩
 |b=>
  have Y:=Is fx;have X:=Is fy;rw[<-Y]at E |-;rw[<-X]at hy |-;have:=cG E;have:=cG hy;subst U;subst W;cases d <;>simp[jf,cq]at hc;exact⟨toB O==toB V,rfl,by simp,by simp⟩
 |n k=>
  have Y:=It fx;have X:=It fy;rw[<-Y]at E |-;rw[<-X]at hy |-;have:=cG E;have:=cG hy;subst U;subst W;cases d <;>simp[jf,cq]at hc;exact⟨toI O==toI V,by simp[Instr.sameNow],by simp,by simp⟩
 |r k=>simp[jf]at h0|m a b=>simp[jf]at h0|f=>simp[jf]at h0
theorem yG {kk O:Tag}{U:TypeId}{V:Value}{x:kk.T}:∀ (es:List MapEntry) (l:List (kk.T×O.T)) (n:Nat),es.length=l.length->(∀ (i:Nat) (p:kk.T×O.T),l[i]? =some p->∃ e:MapEntry,es[i]? =some e/\∃ b,(Op.equal U V e.key).run P w=.ok b w/\(b=true↔x=p.1))->
  (Instr.findAsking U V es n).run P w=.ok ((ol l x).bind λi=>(es[i]?).map λe=>(n+i,e.val)) w
 | [],[],n,_,_=>by rfl
 | [],_::_,_,h,_=>by simp at h
 |_::_,[],_,h,_=>by simp at h
 |e::es,(a,c)::l,n,hl,h=>by
  obtain⟨e',W,b,X,e3⟩:=h 0 _ rfl;simp at W;subst W;have ih:=yG es l (n+1) (by grind) (λi p hp=>by
   obtain⟨e',q1,Y⟩:=h (i+1) p (by grind);exact⟨e',by grind,Y⟩)
  simp only[Instr.findAsking,al9,X,alY];cases b with
  |true=>
   simp_all [ol]
  |false=>
   have E:¬x=a:=λhx=>by grind
   simp only[alO,if_false,ol,E];rw[ih];cases ol l x <;>grind
theorem EE {kk O:Tag}{d:TypeDesc}{U:Value}{x:kk.T}:∀ (es:List MapEntry) (l:List (kk.T×O.T)) (n:Nat),es.length=l.length->(∀ (i:Nat) (p:kk.T×O.T),l[i]? =some p->∃ e:MapEntry,es[i]? =some e/\∃ b,Instr.sameNow d U e.key=some b/\(b=true↔x=p.1))->
  Instr.findNow d U es n=some ((ol l x).bind λi=>(es[i]?).map λe=>(n+i,e.val))
 | [],[],n,_,_=>by rfl
 | [],_::_,_,h,_=>by simp at h
 |_::_,[],_,h,_=>by simp at h
 |e::es,(a,c)::l,n,hl,h=>by
  obtain⟨e',V,b,W,e3⟩:=h 0 _ rfl;simp at V;subst V;have Y:=EE es l (n+1) (by grind) (λi p hp=>by
   obtain⟨e',q1,X⟩:=h (i+1) p (by grind);exact⟨e',by grind,X⟩)
  simp only[Instr.findNow,W];cases b with
  |true=>
   grind [ol]
  |false=>
   have E:¬x=a:=λhx=>by grind
   simp only[ol,E,if_false];rw[Y];cases ol l x <;>grind
theorem Bk{c:Nat}(h:(d_ k).map jf=[c])(x:k.T):∃ κ s,d_ k=[κ]/\jf κ=c/\cellsOf k x=[s]/\fit κ s=true:=by
 have E:=vj k x;cases U:d_ k with
 |nil=>grind
 |cons κ r=>
  rw[U]at h E;simp only[amu,ane,List.map_eq_nil_iff]at h;obtain⟨h1,rfl⟩:=h;obtain⟨s,r,V,W,O⟩:=pw E;have:=uz O;grind
variable {vx:Value}
theorem vn{kk X:Tag}{kt:TypeId}(hk:LJ P kt=some kk){x:kk.T}(hx:Rel F own w (svT kk x) vx){l:List (kk.T×X.T)}{es:Array MapEntry}(hl:es.size=l.length)(V:∀ (i:Nat) (p:kk.T×X.T),l[i]? =some p->∃ e,es[i]? =some e/\Rel F own w (svT kk p.1) e.key):
  (Instr.findKey kt vx es.toList).run P w=.ok ((ol l x).bind λi=>(es[i]?).map λe=>(i,e.val)) w:=by
 obtain⟨i,d,hi,aqr,hd,U,E⟩:=Bj hk;unfold Instr.findKey;simp only[al9,run_underlying hd,alY];rcases E with⟨h1,h2,h3⟩ | ⟨h1,h2,h3⟩;rw[h1]at U;rw[xJ U.symm]at hx;obtain⟨xs,rfl,hxs⟩:=tQ hx;have O:∀ (i:Nat) (p:kk.T×X.T),l[i]? =some p->∃ e:MapEntry,es.toList[i]? =some e/\∃ b,(Op.equal kt (.agg xs) e.key).run P w=.ok b w/\(b=true↔x=p.1):=λi p hp=>by
  obtain⟨e,e1,W⟩:=V i p hp;rw[xJ U.symm]at W;obtain⟨ys,hy1,hy2⟩:=tQ W;refine⟨e,by grind,?_⟩;obtain⟨b,Y,q2⟩:=L8 (vj kk x) (vj kk p.1) (λc hc=>by rw[h2]at hc;exact EC c hc);rw[h2]at Y;rw[hy1];exact⟨b,(L9 hd hxs hy2 h3 Y).1,by rw[q2];exact⟨λh=>Cz h,λh=>by rw[h]⟩⟩
 have hfa:=yG (P:=P) (w:=w) es.toList l 0 (by omega) O;simp only[alQ,anu]at hfa;have hnow:Instr.findNow d (.agg xs) es.toList 0=none\/es.toList=[]:=by
  cases hel:es.toList with
  |nil=>grind
  |cons e r=>
   left;simp only[Instr.findNow];have:Instr.sameNow d (.agg xs) e.key=none:=by cases d <;>rfl
   rw[this]
 grind [Instr.findNow,Instr.findAsking]
 rw[h1]at U;obtain⟨κ,s,k1,k2,k3,k4⟩:=Bk h2 x;rw[z6 U.symm k3]at hx;have O:∀ (i:Nat) (p:kk.T×X.T),l[i]? =some p->∃ e:MapEntry,es.toList[i]? =some e/\∃ b,Instr.sameNow d vx e.key=some b/\(b=true↔x=p.1):=λi p hp=>by
  obtain⟨e,e1,W⟩:=V i p hp;obtain⟨κ',s',m1,m2,m3,m4⟩:=Bk h2 p.1;rw[k1]at m1;cases m1;rw[z6 U.symm m3]at W;obtain⟨b,Y,q2,_⟩:=OL k2 (by omega) k4 m4 hx W;exact⟨e,by grind,b,Y,by rw[q2];exact⟨λh=>Cz (by grind),λh=>by grind⟩⟩
 have hfn:=EE (d:=d) es.toList l 0 (by omega) O;simp_all
theorem wP {em:Bool}{xs:Array Value}:∀ (fs:List Field) (n:Nat),eqFields P n fs=true->n+fs.length<=xs.size->
  (forIn fs PUnit.unit (λf (_:PUnit) =>do
   if f.name≠ "_" then Instr.checkKey em 9999 f.type (<-part f.type xs f.offset)
   pure (ForInStep.yield PUnit.unit)):Sem PUnit).run P w=.ok PUnit.unit w
 | [],n,_,_=>by simp
 |f::fs,n,O,E=>by
  simp only[eqFields,alG]at O;obtain⟨⟨⟨Y,V⟩,W⟩,X⟩:=O;have hn:f.name≠ "_":=by grind
  have ho:f.offset=n:=alH V;have hc:cq (P.underlying f.type)≠0:=by have:=Y2 W;omega
  simp only[alL]at E;have e1:=vh (P:=P) (w:=w) hc (xs:=xs) (n:=n) (by omega);have e2:(Instr.checkKey em 9999 f.type (xs.getD n undef)).run P w=.ok () w:=by
   unfold Instr.checkKey;cases U:P.underlying f.type with
   |none=>grind [cq]
   |some d=>
    rw[U]at hc;simp only[al9,run_underlying U,alY];cases d <;>simp[cq]at hc <;>simp
  have ih:=wP (em:=em) (xs:=xs) fs (n+1) X (by omega);simp_all
theorem yH {em:Bool}{e:TypeId}(hc:cq (P.underlying e)≠0)(O:(sizeOf e).run P w=.ok 1 w){xs:Array Value}:∀ (n m:Nat),m+n<=xs.size->
  (forIn (List.range' m n) PUnit.unit (λi (_:PUnit) =>do
   Instr.checkKey em 9999 e (<-part e xs (i*(<-sizeOf e)))
   pure (ForInStep.yield PUnit.unit)):Sem PUnit).run P w=.ok PUnit.unit w
 |0,m,_=>by simp
 |n+1,m,hle=>by
  have V:=vh (P:=P) (w:=w) hc (xs:=xs) (n:=m) (by omega);have W:(Instr.checkKey em 9999 e (xs.getD m undef)).run P w=.ok () w:=by
   unfold Instr.checkKey;cases E:P.underlying e with
   |none=>grind [cq]
   |some d=>
    rw[E]at hc;simp only[al9,run_underlying E,alY];cases d <;>simp[cq]at hc <;>simp
  have U:=yH (em:=em) hc O (xs:=xs) n (m+1) (by omega);simp_all [am9]
theorem tR{kk:Tag}{V:TypeId}(hk:LJ P V=some kk){x:kk.T}(hx:Rel F own w (svT kk x) vx)(em:Bool):(Instr.checkKey em 10000 V vx).run P w=.ok () w:=by
 obtain⟨i,d,hi,aqr,hd,Y,U⟩:=Bj hk;rcases U with⟨h1,h2,W⟩ | ⟨h1,h2,W⟩;rw[h1]at Y;rw[xJ Y.symm]at hx;obtain⟨xs,rfl,X⟩:=tQ hx;have E:(nO P V d).length=xs.size:=by
  rw[X.1,<-h2,amM,bG];have:(d_ kk).length=(cellsOf kk x).length:=by cases kk <;>rfl
  rw[this,bG]
 unfold Instr.checkKey;simp only[al9,run_underlying hd,alY];cases d with
 |struct fs=>
  simp only[nO]at W E;cases O:!P.stoodInHeld V&& !P.eqGuardType P.depth V&&eqFields P 0 fs.toList with
  |false=>grind
  |true=>
   rw[O]at E;simp only[alG]at O;have:=wP (P:=P) (w:=w) (em:=em) (xs:=xs) fs.toList 0 O.2 (by grind);simp_all
 |array n e=>
  simp only[nO]at W E;cases O:!P.eqGuardType P.depth V&&Nat.blt 0 (cq (P.underlying e))&&Nat.beq (nX P e) 1 with
  |false=>grind
  |true=>
   rw[O]at E;simp only[alG]at O;have hs1:=alH O.2;have hs:(sizeOf e).run P w=.ok 1 w:=by
    grind [nX,dJ]
   have:=yH (P:=P) (w:=w) (em:=em) (xs:=xs) (e:=e) (by have:=Y2 O.1.2;omega) hs n 0 (by grind);simp_all
 |_=>exact absurd rfl W
 unfold Instr.checkKey;simp only[al9,run_underlying hd,alY];cases d <;>simp[cq]at W <;>simp
end
def z7 (w:World)(b:Nat)(o:Obj):World:= { w with heap:=w.heap.setIfInBounds b o}
def OM {w:World}{b k:Nat}{o:Obj}(h:k≠b):(z7 w b o).heap[k]? =w.heap[k]?:=by
 grind [z7]
section
variable {P:Program}{F:Nat->Prop}{own:Own}{w:World}
theorem ON {z:Value}(h:D5 z=true):z=.agg z.cells:=by
 cases z <;>first|rfl|simp[D5]at h
variable {t:TypeId}{k:Tag}
theorem L_{i:TypeInfo}(h:yB P t i=some k){z:Value}(V:i.zero=some z):Rel F own w (svT k (et k)) z:=by
 obtain⟨t1,t2,t3,W⟩:=z5 (F:=F) (own:=own) (w:=w) h;obtain⟨E,Y⟩:=W z V;cases O:ot k with
 |true=>
  rw[xJ O,ON (Y.trans O)];exact .agg E.1 E.2
 |false=>
  have hc:z.cells= #[z]:=by cases z <;>first|rfl|grind [D5]
  rw[hc]at E;have hl:(cellsOf k (et k)).length=1:=by rw[<-E.1];rfl
  obtain⟨s,U⟩:∃ s,cellsOf k (et k)=[s]:=by
   cases X:cellsOf k (et k) <;>grind
  rw[z6 O U];have:=E.2 0 s (by rw[U];rfl);simp_all
theorem Uk {s:SV}{l:List SV}(h:A9 s=some l):l=[s]:=by
 unfold A9 at h;split at h
 cases h;cases h
 ·rename_i h1 h2;cases s <;>first|(simp[pg]at h;exact h.symm) |(simp[pg]at h;done) |(exact(h1 _ rfl).elim) |skip
  rename_i x;cases x <;>first|(simp[pg]at h;exact h.symm) |(simp[pg]at h;done) |grind
variable {v:Value}
theorem rN{s:SV}(V:Rel F own w s v){x:k.T}(h:unT k s=some x):Rel F own w (svT k x) v:=by
 unfold unT at h;cases E:ot k with
 |true=>
  rw[E]at h;simp only[cond_true]at h;rw[xJ E];cases V with
  |agg X h1=>
   simp only[zL,Cs]at h;have:=Ey h ⟨X,h1⟩;exact .agg this.1 this.2
  |v y=>
   cases v with
   |agg cs=>
    simp only[zL,Cs]at h;have:=Ey h (vs:=cs) (xH (F:=F) (own:=own) (w:=w) (.agg cs));exact .agg this.1 this.2
   |_=>simp[zL,Cs]at h
  |_=>simp[zL,Cs]at h
 |false=>
  rw[E]at h;simp only[cond_false]at h;cases O:A9 s with
  |none=>rw[O]at h;cases h
  |some l=>
   rw[O]at h;have:=Uk O;subst this;simp only[Cs]at h;have hc:=mo h;have U:=OF h;have Y:(d_ k).length=1:=by
    have:(d_ k).length=aa k:=by cases k <;>rfl
    grind
   cases W:d_ k with
   |nil=>grind
   |cons κ r=>
    grind [z6,ox,ye]
theorem nE {a:Tag}{o:Option Tag}(h:lq a o=true):o=some a:=by
 cases o with
 |none=>cases h|some b=>rw[uv (k:=a) (k':=b) h]
variable {ti:TI}{kk E:Tag}
theorem y_(U:jg P t=some ti)(W:ti.mkt=some kk)(V:ti.mvt=some E):∃ O e,P.underlying t=some (.map O e)/\LJ P O=some kk/\LI P e=some E:=by
 obtain⟨i,d,z,hi,hd,X,Y,rfl⟩:=bV U;cases d <;>simp[dG]at W V;grind
theorem Sn(l:List (kk.T×E.T))(p:Option (Nat×Option kk.T))(x:kk.T):(iv (eu kk E l p) x).getD (et E)=(iv l x).getD (et E):=by
 match p with
 |none=>rfl|some (_,none) =>rfl
 |some (_,some y) =>
  simp only[eu];split
  rfl
  ·rename_i U;have:∀ (l:List (kk.T×E.T)),iv (l++[(y,et E)]) x=match iv l x with|some v=>some v|none=>if x=y then some (et E)else none:=by
    intro l;induction l with
    |nil=>simp[iv]
    |cons a l O=>obtain⟨a,b⟩:=a;simp only[al7,iv];grind
   rw[this];cases iv l x <;>grind
variable {vx:Value}{x:kk.T}{es:Array MapEntry}
theorem z8{Y e:TypeId}(hd:P.underlying t=some (.map Y e))(hk:LJ P Y=some kk)(hv:LI P e=some E){m:Value}(hx:Rel F own w (svT kk x) vx){L:List (kk.T×E.T)}
  (hm:(m=.map none/\es= #[])\/∃ b clock,m=.map (some b)/\w.heap[b]? =some (.map es clock)) (hl:es.size=L.length) (U:∀ (i:Nat) (p:kk.T×E.T),L[i]? =some p->∃ e,es[i]? =some e/\Rel F own w (svT kk p.1) e.key/\Rel F own w (svT E p.2) e.val) (ok:Bool):
  ∃ v,(Instr.lookup t m vx ok).run P w=.ok (if ok then .tuple #[v,.bool (iv L x).isSome]else v) w/\Rel F own w (svT E ((iv L x).getD (et E))) v:=by
 obtain⟨i,hi,O⟩:=Bi hv;have W:∃ z,i.zero=some z:=by
  have:=Bh O;simp only[D6,alG]at this;grind
 obtain⟨z,W⟩:=W;have hck:=tR hk hx es.isEmpty;have hfk:=vn hk hx hl (λi p hp=>by obtain⟨e,e1,e2,_⟩:=U i p hp;grind);have hzr:=L_ (F:=F) (own:=own) (w:=w) O W;have hzv:(zeroValue e).run P w=.ok z w:=by simp[zeroValue,typeInfo,hi,W]
 have V:∃ v,((∃ j,((ol L x).bind λi=>(es[i]?).map λe=>(i,e.val))=some (j,v)/\(iv L x).isSome=true)\/(((ol L x).bind λi=>(es[i]?).map λe=>(i,e.val))=none/\v=z/\(iv L x).isSome=false))/\Rel F own w (svT E ((iv L x).getD (et E))) v:=by
  cases X:ol L x with
  |none=>
   grind [uA]
  |some i=>
   obtain⟨y,h1,h2,_,_⟩:=sb X;obtain⟨e,e1,e2,e3⟩:=U i _ h1;grind
 obtain⟨v,h1,h2⟩:=V;refine⟨v,?_,h2⟩;rcases hm with⟨rfl,rfl⟩ | ⟨b,clock,rfl,hb⟩;simp_all [Instr.lookup,run_underlying];have hg:(getObj b).run P w=.ok (.map es clock) w:=by simp[getObj,Sem.run,hb]
 rcases h1 with⟨j,h1,h3⟩ | ⟨h1,rfl,h3⟩;simp_all [Instr.lookup,run_underlying];simp_all [Instr.lookup,run_underlying]
variable {r:OR}
theorem EF{l:List (kk.T×E.T)}{ok:Bool}{o:Option kk.T}(U:Il kk E l ok o=r)(O:r≠ .bad):∃ x,o=some x/\r=.val (bif ok then .tup [svT E (aL kk E l x),.b (wE kk E l x)]else svT E (aL kk E l x)):=by
 unfold Il at U;grind
theorem z9{y:E.T}{b:Bool}(h:Rel F own w (svT E y) v)(ok:Bool):Rel F own w (bif ok then .tup [svT E y,.b b]else svT E y) (if ok then .tuple #[v,.bool b]else v):=by
 cases ok with
 |false=>exact h
 |true=>
  refine .tup rfl λj s O=>?_;cases j with
  |zero=>simp_all
  |succ j=>
   cases j with
   |zero=>simp at O;subst O;exact .v _|succ j=>simp at O
variable {h:List Ob}{sk:SV}
theorem Ul(V:Hp F own w h)(ht:jg P t=some ti){s:SV}(hr:Rel F own w s v)(O:Rel F own w sk vx){ok:Bool}(E:tI ti h ok sk s=r)(U:r≠ .bad):
  ∃ s',r=.val s'/\∃ u,(Instr.lookup t v vx ok).run P w=.ok u w/\Rel F own w s' u:=by
 unfold tI at E;split at E
 rename_i id;obtain⟨hdd,h1,rfl,h2⟩:=ij hr;cases ho:ap h id with
 |mp kk X l W=>
  rw[ho]at E;simp only[Qr]at E;cases hc:lq kk ti.mkt&&lq X ti.mvt&&(!ok||noE W)with
  |false=>grind
  |true=>
   rw[hc]at E;simp only[cond_true]at E;simp only[alG]at hc;obtain⟨x,hx,rfl⟩:=EF E U;obtain⟨kt,e,q1,q2,q3⟩:=y_ ht (nE hc.1.1) (nE hc.1.2);obtain⟨hd',e0,b,es,clk,m1,m2,m3,m4,_⟩:=V.at ho rfl;rw[h1]at e0;cases e0;obtain⟨u,k1,k2⟩:=z8 (P:=P) q1 q2 q3 (rN O hx) (m:=hdd.v) (.inr ⟨b,_,m1,m3⟩) m4.1 (λi p V=>by obtain⟨e,e1,e2,e3⟩:=m4.2 i p V;grind) ok;rw[Sn]at k2;refine⟨_,rfl,_,k1,?_⟩;have Y:ok=true->(iv (eu kk X l W) x).isSome=wE kk X l x:=λhok=>by
    have:=hc.2;rw[hok]at this;rw[kc (by grind)];rfl
   have:=z9 (b:=wE kk X l x) k2 ok;cases ok with
   |false=>exact this|true=>rw[Y rfl];exact this
 |_=>rw[ho]at E;exact absurd E.symm U
 rename_i kk X l;cases hc:lq kk ti.mkt&&lq X ti.mvt with
 |false=>grind
 |true=>
  rw[hc]at E;simp only[cond_true]at E;simp only[alG]at hc;obtain⟨x,hx,rfl⟩:=EF E U;obtain⟨kt,e,q1,q2,q3⟩:=y_ ht (nE hc.1) (nE hc.2);cases hr with
  |rm ck cv es clock h0 h1 h2 h3 h4 h5=>
   rename_i b;obtain⟨u,k1,k2⟩:=z8 (P:=P) q1 q2 q3 (rN O hx) (m:=.map (some b)) (.inr ⟨b,_,rfl,h1⟩) h2 (λi p V=>by obtain⟨n,e1⟩:=h3 i p V;grind) ok;exact⟨_,rfl,_,k1,z9 k2 ok⟩
  |rm0=>
   obtain⟨u,k1,k2⟩:=z8 (P:=P) q1 q2 q3 (rN O hx) (m:=.map none) (.inl ⟨rfl,rfl⟩) rfl (λi p V=>by simp at V) ok (L:=[]);exact⟨_,rfl,_,k1,z9 k2 ok⟩
 have:=cG hr;subst this;unfold TX at E;split at E
 rename_i kk X hk hv;obtain⟨x,hx,rfl⟩:=EF E U;obtain⟨kt,e,q1,q2,q3⟩:=y_ ht hk hv;obtain⟨u,k1,k2⟩:=z8 (P:=P) q1 q2 q3 (rN O hx) (m:=.map none) (.inl ⟨rfl,rfl⟩) rfl (λi p V=>by simp at V) ok (L:=[]);exact⟨_,rfl,_,k1,z9 k2 ok⟩;grind
 grind
theorem yI{κ:Kd}{s:SV}{u:Value}(O:jf κ≠0)(E:fit κ s=true)(U:Rel F own w s v)(V:Rel F own w s u)(n:Nat):u=v/\Instr.sameBits n v u=true:=by
 cases κ with
 |s=>have e:=Ir E;grind [cG,Instr.sameBits,JY]|b=>have e:=Is E;grind [cG,Instr.sameBits]|n k=>have e:=It E;grind [cG,Instr.sameBits]|r k=>simp[jf]at O|m a b=>simp[jf]at O|f=>simp[jf]at O
theorem Ma:∀ {ks:List Kd} {l:List SV} {j:Nat} {s:SV},ul ks l=true->l[j]? =some s->∃ κ,κ∈ks/\fit κ s=true
 | [],l,j,s,h,E=>by grind [uz]
 |k::ks,l,j,s,h,E=>by
  obtain⟨x,r,rfl,U,O⟩:=pw h;cases j with
  |zero=>grind
  |succ j=>simp at E;obtain⟨κ,h1,h2⟩:=Ma O E;grind
theorem QD{kt:TypeId}(hk:LJ P kt=some kk){u:Value}(hv:Rel F own w (svT kk x) v)(hu:Rel F own w (svT kk x) u):(Instr.keyThatStays v u).run P w=.ok u w:=by
 obtain⟨i,d,hi,aqr,hd,Y,O⟩:=Bj hk;have:Instr.sameBits 10000 v u=true:=by
  rcases O with⟨h1,h2,h3⟩ | ⟨h1,h2,h3⟩;rw[h1]at Y;rw[xJ Y.symm]at hv hu;obtain⟨xs,rfl,U⟩:=tQ hv;obtain⟨W,rfl,V⟩:=tQ hu;have X:xs.size=W.size:=U.1.trans V.1.symm;have key:∀ (j:Nat),j<xs.size->W.getD j undef=xs.getD j undef/\Instr.sameBits 9999 (xs.getD j undef) (W.getD j undef)=true:=λj hj=>by
   have E:j< (cellsOf kk x).length:=by rw[<-U.1];exact hj
   obtain⟨κ,q1,q2⟩:=Ma (vj kk x) (alP E);have hc:jf κ≠0:=by
    have:jf κ∈(d_ kk).map jf:=anh.2 ⟨κ,q1,rfl⟩;grind [EC]
   exact yI hc q2 (U.2 j _ (alP E)) (V.2 j _ (alP E)) 9999
  simp only[Instr.sameBits,alG,beq_iff_eq,X,true_and,amc];rintro⟨a,b⟩ hm;obtain⟨j,hj⟩:=ams hm;simp_all <;>grind;rw[h1]at Y;obtain⟨κ,s,k1,k2,k3,k4⟩:=Bk h2 x;grind [z6,yI]
 simp[Instr.keyThatStays,this]
theorem ap3.upd{bn:Own}{w':World}(g:apK F own w bn w'){U:Tag}{l:List (kk.T×U.T)}(h:ap3 F own w kk U l es){i:Nat}{y:U.T}{W X:Value}(hx:Rel F own w (svT kk x) W)(hy:Rel F own w (svT U y) X)(hi:i<l.length):
  ap3 F bn w' kk U (l.set i (x,y)) (es.modify i λe=>{ e with key:=W,val:=X}):=by
 refine⟨by simp[h.1],λj p E=>?_⟩;rw[anA]at E;by_cases O:i=j
 subst O;rw[if_pos rfl,if_pos hi]at E;simp only[alK]at E;subst E;obtain⟨e,e1,V,_⟩:=h.2 i _ (alP hi);exact⟨{ e with key:=W,val:=X},by grind,V,hx.mono g,hy.mono g⟩;rw[if_neg O]at E;obtain⟨e,e1,V,e3,Y⟩:=h.2 j p E;exact⟨e,by grind,V,e3.mono g,Y.mono g⟩
theorem ap3.push{bn:Own}{w':World}(g:apK F own w bn w'){l:List (kk.T×E.T)}(h:ap3 F own w kk E l es){y:E.T}{U V:Value}(X:Rel F own w (svT kk x) U)(hy:Rel F own w (svT E y) V)(c:Nat):
  ap3 F bn w' kk E (l++[(x,y)]) (es.push ⟨U,V,c⟩):=by
 refine⟨by simp[h.1],λj p O=>?_⟩;rw[amC]at O;split at O
 rename_i hlt;obtain⟨e,e1,e2,e3,W⟩:=h.2 j p O;exact⟨e,by grind,e2,e3.mono g,W.mono g⟩;rename_i hlt;have Y:j=l.length:=by
  grind
 subst Y;simp at O;subst O;exact⟨⟨U,V,c⟩,by rw[<-h.1];simp,trivial,X.mono g,hy.mono g⟩
theorem ap3.erase{bn:Own}{w':World}(g:apK F own w bn w'){U:Tag}{l:List (kk.T×U.T)}(h:ap3 F own w kk U l es)(i:Nat):
  ap3 F bn w' kk U (l.eraseIdx i) (es.eraseIdxIfInBounds i):=by
 have Y:es.toList.length=l.length:=by simpa using h.1
 refine⟨?_,λj p E=>?_⟩;grind [List.length_eraseIdx]
 rw[<-anu,Array.toList_eraseIdxIfInBounds,aov];rw[aov]at E;split at E
 rename_i hlt;obtain⟨e,X,V,W,O⟩:=h.2 _ p E;exact⟨e,by grind,V,W.mono g,O.mono g⟩;rename_i hlt;obtain⟨e,X,V,W,O⟩:=h.2 _ p E;exact⟨e,by grind,V,W.mono g,O.mono g⟩
theorem JZ (es:Array MapEntry)(i:Nat)(f:MapEntry->MapEntry)(E:∀ e,(f e).born=e.born):kA (es.modify i f)=kA es:=by
 unfold kA;refine List.ext_getElem? λj=>?_;grind
variable {c:Nat}
theorem Stamped.modify{i:Nat}{f:MapEntry->MapEntry}(h:Stamped es c)(E:∀ e,(f e).born=e.born):Stamped (es.modify i f) c:=by
 grind [Stamped,JZ]
theorem Stamped.push(h:Stamped es c)(E O:Value):Stamped (es.push ⟨E,O,c⟩) (c+1):=by
 grind [kA,Stamped]
theorem Stamped.erase(h:Stamped es c)(i:Nat):Stamped (es.eraseIdxIfInBounds i) c:=by
 have e:(kA (es.eraseIdxIfInBounds i)).Sublist (kA es):=by
  grind [kA,Array.toList_eraseIdxIfInBounds]
 exact⟨h.1.sublist e,λn E=>h.2 n (e.subset E)⟩
theorem Iv {κ υ:Type}[DecidableEq κ]{x:κ}:∀ {l:List (κ×υ)},ol l x=none->A8 l x=l
 | [],_=>rfl
 |(a,b)::r,h=>by
  simp only[ol]at h;split at h
  cases h;rename_i E;simp only[A8,if_neg E];rw[Iv (by cases O:ol r x with
   |none=>rfl
   |some i=>rw[O]at h;cases h)]
theorem Iw {κ υ:Type}[DecidableEq κ]{x:κ}:∀ {l:List (κ×υ)} {i:Nat},ol l x=some i->A8 l x=l.eraseIdx i
 | [],i,h=>by rfl
 |(a,b)::r,i,h=>by
  simp only[ol]at h;split at h
  rename_i U;cases h;simp[A8,U];rename_i E;cases O:ol r x with
  |none=>rw[O]at h;cases h
  |some j=>
   rw[O]at h;simp at h;subst h;simp[A8,E,Iw O]
theorem uB(hp:Hp F own w h){id:Nat}{hd:Hd}(h1:own id=some hd){b:Nat}(W:hd.bs=[b])(X:hd.v=.map (some b))(hh:w.heap[b]? =some (.map es c))(E:Array MapEntry)(U:Nat){O:Tag}{l':List (kk.T×O.T)}{p':Option (Nat×Option kk.T)}
  (hm:∀ bn w',apK F own w bn w'->ap3 F bn w' kk O (eu kk O l' p') E) (Y:Stamped E U) (V:aqn own kk O l' E U p'):Step F own w (cm h id (.mp kk O l' p')) own (z7 w b (.map E U)):=by
 refine pu hp h1 (b:=b) (by simp[W]) (by simp[z7]) (λk hk=>OM hk) rfl rfl rfl _ λg=>⟨b,E,U,X,W,?_,hm _ _ g,Y,V⟩;grind [z7]
theorem QE(X:Hp F own w h)(ht:jg P t=some ti){s sv:SV}{W Y:Value}(hr:Rel F own w s v)(hrk:Rel F own w sk W)(hrv:Rel F own w sv Y)(E:C4 ti h sk sv s=r)(hne:r≠ .bad):
  ∃ ups,r=.eff True True ups .any/\∃ w',(Instr.mapUpdate t v W Y).run P w=.ok () w'/\Step F own w (bb h ups) own w':=by
 unfold C4 at E;split at E
 rename_i id;obtain⟨hdd,h1,rfl,h2⟩:=ij hr;cases ho:ap h id with
 |mp kk vk l V=>
  rw[ho]at E;simp only[aaZ]at E;cases hc:lq kk ti.mkt&&lq vk ti.mvt&&noE V with
  |false=>grind
  |true=>
   rw[hc]at E;simp only[cond_true]at E;simp only[alG]at hc;unfold aaY at E;split at E
   rename_i x y hx hy;subst E;obtain⟨kt,e,q1,q2,q3⟩:=y_ ht (nE hc.1.1) (nE hc.1.2);obtain⟨hd',e0,b,es,O,m1,m2,m3,m4,m5,_⟩:=X.at ho rfl;rw[h1]at e0;cases e0;rw[kc hc.2]at m4;have rx:=rN hrk hx;have ry:=rN hrv hy;have hg:(getObj b).run P w=.ok (.map es O) w:=by simp[getObj,Sem.run,m3]
   have hset:∀ o,(setObj b o).run P w=.ok () (z7 w b o):=λo=>by simp[setObj,Sem.run,m3,z7]
   have hck:=tR q2 rx false;have hfk:=vn q2 rx m4.1 (λi p X=>by obtain⟨e,e1,e2,e3,_⟩:=m4.2 i p X;grind);refine⟨_,rfl,?_⟩;simp only[bb];cases U:ol l x with
   |none=>
    obtain⟨_,n2,_⟩:=uA U;have:=uB X h1 m2 m1 m3 (es.push ⟨W,Y,O⟩) (O+1) (l':=dH kk vk l x y) (p':=none) (λbn w' g=>by
     grind [ap3.push,eu,dH]) (m5.push W Y) trivial
    simp_all [Instr.mapUpdate,run_underlying]
   |some i=>
    obtain⟨y',n1,n2,n3,_⟩:=sb U;obtain⟨e',k1,k2,k3,k4⟩:=m4.2 i _ n1;have:=uB X h1 m2 m1 m3 (es.modify i λe=>{ e with key:=W,val:=Y}) O (l':=dH kk vk l x y) (p':=none) (λbn w' g=>by
     grind [ap3.upd,eu,dH]) (m5.modify λ_=>rfl) trivial
    refine⟨_,?_,this⟩;rw[U]at hfk;have hst:=QD q2 k3 rx;simp_all [Instr.mapUpdate,run_underlying]
   grind
 |_=>rw[ho]at E;exact absurd E.symm hne
 grind
theorem X9(hp:Hp F own w h)(ht:jg P t=some ti){l:List SV}{vs:Array Value}(hl:apx F own w l vs)(E:y3 ti h l=r)(hne:r≠ .bad){tys:Array TypeId}(hty:tys[0]? =some t)(ty:TypeId):
  ∃ ups,r=.eff True True ups .any/\∃ u w',(Builtin.delete_ tys ty vs).run P w=.ok u w'/\Step F own w (bb h ups) own w':=by
 unfold y3 at E;split at E
 ·rename_i id sk;obtain⟨vs⟩:=vs;have hsz:=hl.1;match vs,hsz with
  | [v0,vx],_=>
  have hr:Rel F own w (.os id) v0:=hl.2 0 _ rfl;have hrk:Rel F own w sk vx:=hl.2 1 _ rfl;obtain⟨hdd,h1,rfl,h2⟩:=ij hr;cases ho:ap h id with
  |mp kk vk l Y=>
   rw[ho]at E;simp only[aa3]at E;cases hc:lq kk ti.mkt&&lq vk ti.mvt&&noE Y with
   |false=>grind
   |true=>
    rw[hc]at E;simp only[cond_true]at E;simp only[alG]at hc;unfold aa2 at E;split at E
    rename_i x hx;subst E;obtain⟨kt,e,q1,q2,q3⟩:=y_ ht (nE hc.1.1) (nE hc.1.2);obtain⟨hd',e0,b,es,W,m1,m2,m3,X,m5,_⟩:=hp.at ho rfl;rw[h1]at e0;cases e0;rw[kc hc.2]at X;have rx:=rN hrk hx;have hg:(getObj b).run P w=.ok (.map es W) w:=by simp[getObj,Sem.run,m3]
    have V:∀ o,(setObj b o).run P w=.ok () (z7 w b o):=λo=>by simp[setObj,Sem.run,m3,z7]
    have hck:=tR q2 rx es.isEmpty;have U:=vn q2 rx X.1 (λi p hp=>by obtain⟨e,e1,e2,e3,_⟩:=X.2 i p hp;grind);refine⟨_,rfl,?_⟩;simp only[bb];cases O:ol l x with
    |none=>
     have:=uB hp h1 m2 m1 m3 es W (l':=su kk vk l x) (p':=none) (λbn w' g=>by
      simp only[eu,su,Iv O];exact X.carry g.apM) m5 trivial
     refine⟨.tuple #[],_,?_,this⟩;rw[O]at U;simp only[m1,Builtin.delete_,hty,anW,aon,anR,al9,run_underlying q1,alY,hg,hck,U,Option.bind_none,V,am3]
    |some i=>
     obtain⟨y',n1,n2,n3,_⟩:=sb O;obtain⟨e',k1,k2,k3,k4⟩:=X.2 i _ n1;have:=uB hp h1 m2 m1 m3 (es.eraseIdxIfInBounds i) W (l':=su kk vk l x) (p':=none) (λbn w' g=>by
      simp only[eu,su,Iw O];exact ap3.erase g X i) (m5.erase i) trivial
     refine⟨.tuple #[],_,?_,this⟩;rw[O]at U;simp only[m1,Builtin.delete_,hty,anW,aon,anR,al9,run_underlying q1,alY,hg,hck,U,ann,k1,am2,V,am3]
    grind
  |_=>rw[ho]at E;exact absurd E.symm hne
 grind
theorem OO{i:Nat}{e':MapEntry}(O:es[i]? =some e')(E:Value):(es.modify i λe=>{ e with key:=E})=es.modify i λe=>{ e with key:=E,val:=e'.val}:=by
 grind
theorem X_(hp:Hp F own w h){nx:Nat}(hn:ap9 own h nx)(ht:jg P t=some ti){s:SV}{X:Value}(hr:Rel F own w s v)(hrk:Rel F own w sk X)(W:yf ti nx h sk s=r)(hne:r≠ .bad):
  CC F own w h ((Instr.mapEntry t v X).run P w) r:=by
 unfold yf at W;split at W
 ·rename_i id;obtain⟨hdd,h1,rfl,h2⟩:=ij hr;cases ho:ap h id with
  |mp kk Y l ap1=>
   rw[ho]at W;simp only[RR]at W;cases hc:lq kk ti.mkt&&lq Y ti.mvt&&noE ap1 with
   |false=>grind
   |true=>
    rw[hc]at W;simp only[cond_true]at W;simp only[alG]at hc;unfold RQ at W;split at W
    rename_i x hx;subst W;obtain⟨kt,e,q1,q2,q3⟩:=y_ ht (nE hc.1.1) (nE hc.1.2);obtain⟨hd',e0,b,es,E,m1,m2,m3,m4,m5,_⟩:=hp.at ho rfl;rw[h1]at e0;cases e0;rw[kc hc.2]at m4;have rx:=rN hrk hx;obtain⟨i,hi,aqr⟩:=Bi q3;have hz:∃ z,i.zero=some z:=by
     have:=Bh aqr;simp only[D6,alG]at this;grind
    obtain⟨z,hz⟩:=hz;have hzr:=L_ (F:=F) (own:=own) (w:=w) aqr hz;have hzv:(zeroValue e).run P w=.ok z w:=by simp[zeroValue,typeInfo,hi,hz]
    have hg:(getObj b).run P w=.ok (.map es E) w:=by simp[getObj,Sem.run,m3]
    have hset:∀ o,(setObj b o).run P w=.ok () (z7 w b o):=λo=>by simp[setObj,Sem.run,m3,z7]
    have hck:=tR q2 rx false;have hfk:=vn q2 rx m4.1 (λi p hp=>by obtain⟨e,e1,e2,e3,_⟩:=m4.2 i p hp;grind);have hidn:id≠nx:=λe=>by rw[e,hn.none]at h1;cases h1
    have st1:∀ n:Nat,Step F own w (cm h nx (.fwd none)) (own.move [] nx ⟨none,.int .i64 n,[],[]⟩) w:=λn=>
     kK (nx:=nx) hp hn [] (by simp) ⟨none,.int .i64 n,[],[]⟩ (.fwd none) (λb hb=>by simp at hb) (λ_ _ _=>rfl) (alJ _) rfl rfl rfl λbn g i hi=>by cases hi
    have go:∀ n:Nat,(own.move [] nx ⟨none,.int .i64 n,[],[]⟩) id=some hdd:=λn=>by grind [Own.move]
    have gx:∀ n:Nat,(own.move [] nx ⟨none,.int .i64 n,[],[]⟩) nx=some ⟨none,.int .i64 n,[],[]⟩:=λn=>by simp[Own.move]
    have fin:∀ (n:Nat) (O:Array MapEntry) (c':Nat),(∀ bn w',apK F own w bn w'->ap3 F bn w' kk Y (eu kk Y l (some (nx,some x))) O)->Stamped O c'->(∃ e,O[un kk Y l x]? =some e/\e.born=n)->
      Step F own w (bb h [(nx,.fwd none),(id,.mp kk Y l (some (nx,some x)))]) (own.move [] nx ⟨none,.int .i64 n,[],[]⟩) (z7 w b (.map O c')):=λn O c' hm hs hpd=>by
     obtain⟨e1,p1,p2⟩:=hpd;have s1:=st1 n;have s2:=uB s1.hp (go n) m2 m1 m3 O c' (l':=l) (p':=some (nx,some x)) (λbn w' g=>hm _ _ ⟨λid hd h=>by obtain⟨hd',a,b⟩:=s1.fr.apS.ids (F:=F) id hd h;obtain⟨V,a2,b2⟩:=g.ids _ _ a;exact⟨V,a2,b.trans b2⟩,λb hb hn=>by
      obtain⟨a1,a2⟩:=s1.fr.apS.keep b hb hn;obtain⟨a3,a4⟩:=g.keep b hb a1;grind,g.size⟩) hs ⟨_,e1,gx n,p1,by rw[p2]⟩
     refine⟨s2.hp,s1.fr.trans s2.fr,λj U hd=>?_⟩;have V:dx (ap (cm (cm h nx (.fwd none)) id (.mp kk Y l (some (nx,some x)))) j)=true:=hd;rw[dy,dy]at V;by_cases e:j=nx
     subst e;rw[if_neg hidn,if_pos rfl]at V;cases V;grind [Own.move]
    cases hmi:ol l x with
    |none=>
     obtain⟨n1,n2,n3⟩:=uA hmi;have hpos:un kk Y l x=es.size:=by rw[m4.1];simp[un,n3]
     have:=fin E (es.push ⟨X,z,E⟩) (E+1) (λbn w' g=>by
      simp only[eu,n1,Option.isSome_none,alO,if_false];grind [ap3.push]) (m5.push X z) ⟨⟨X,z,E⟩,by grind,rfl⟩
     refine⟨_,_,_,_,rfl,λ_=>⟨trivial,.tuple #[z,.int .i64 E],_,_,?_,.tup rfl λj s U=>?_,this⟩⟩;simp_all [Instr.mapEntry,run_underlying,goInt];match j,U with
     |0,U=>cases U;have:=hzr.mono this.fr.apS;simp_all [aL]|1,U=>cases U;exact .os (gx E) rfl
    |some i=>
     obtain⟨y',n1,n2,n3,n4⟩:=sb hmi;obtain⟨e',k1,k2,k3,k4⟩:=m4.2 i _ n1;have hes':=OO k1 X;have hpos:un kk Y l x=i:=n4;have:=fin e'.born (es.modify i λe=>{ e with key:=X}) E (λbn w' g=>by
      simp only[eu,n2,Option.isSome_some,if_true];rw[hes'];have:=ap3.upd g m4 rx k4 (alM.1 n1).1
      rwa[show l.set i (x,y')=l by
       apply List.ext_getElem?;intro j;rw[anA];grind]at this) (m5.modify λ_=>rfl) ⟨{ e' with key:=X},by grind,rfl⟩
     refine⟨_,_,_,_,rfl,λ_=>⟨trivial,.tuple #[e'.val,.int .i64 e'.born],_,_,?_,.tup rfl λj s U=>?_,this⟩⟩;rw[hmi]at hfk;have hst:=QD q2 k3 rx;simp_all [Instr.mapEntry,run_underlying,goInt];match j,U with
     |0,U=>cases U;have:=k4.mono this.fr.apS;simp_all [aL]|1,U=>cases U;exact .os (gx _) rfl
    grind
  |_=>rw[ho]at W;exact absurd W.symm hne
 grind
theorem Um{i:Nat}{e:MapEntry}(U:(kA es).Nodup)(hi:es[i]? =some e):es.findIdx? (λx=>(x.born:Int) ==(e.born:Int))=some i:=by
 obtain⟨E,O⟩:=amW.1 hi;rw[Array.findIdx?_eq_some_iff_getElem];refine⟨E,by simp[O],λj V=>?_⟩;simp only[beq_iff_eq];grind [List.pairwise_iff_getElem,kA]
theorem Ya(hp:Hp F own w h)(ht:jg P t=some ti){s ss sv:SV}{vs vy:Value}(hr:Rel F own w s v)(hrs:Rel F own w ss vs)(hrv:Rel F own w sv vy)(E:JH ti h sv s ss=r)(U:r≠ .bad):
  ∃ c ups,r=.eff c True ups .any/\(c->∃ w',(Instr.entryStore t v vs vy).run P w=.ok () w'/\Step F own w (bb h ups) own w'):=by
 unfold JH at E;split at E
 ·rename_i id n;obtain⟨hdd,h1,rfl,h2⟩:=ij hr;obtain⟨hds,s1,rfl,_⟩:=ij hrs;cases ho:ap h id with
  |mp kk O l X=>
   rw[ho]at E;cases X with
   |none=>exact absurd E.symm U
   |some q=>
   obtain⟨n',q⟩:=q;cases q with
   |none=>exact absurd E.symm U
   |some x=>
   simp only[aa1]at E;cases hc:lq kk ti.mkt&&lq O ti.mvt&&Nat.beq n' n with
   |false=>grind
   |true=>
    rw[hc]at E;simp only[cond_true]at E;simp only[alG]at hc;have hnn:=alH hc.2;subst hnn;unfold aa0 at E;split at E
    rename_i y hy;subst E;obtain⟨hd',e0,b,es,Y,m1,m2,m3,m4,m5,hd2,e',t1,k1,t3⟩:=hp.at ho rfl;rw[h1]at e0;cases e0;rw[s1]at t1;cases t1;have ry:=rN hrv hy;refine⟨_,_,rfl,λ_=>?_⟩;simp only[bb];have hg:(getObj b).run P w=.ok (.map es Y) w:=by simp[getObj,Sem.run,m3]
    have hset:∀ o,(setObj b o).run P w=.ok () (z7 w b o):=λo=>by simp[setObj,Sem.run,m3,z7]
    have V:∃ y0,(eu kk O l (some (n',some x)))[un kk O l x]? =some (x,y0)/\dH kk O l x y=(eu kk O l (some (n',some x))).set (un kk O l x) (x,y):=by
     cases W:ol l x with
     |none=>
      obtain⟨n1,n2,n3⟩:=uA W;simp_all [eu,un,dH]
     |some i=>
      obtain⟨y',n1,n2,n3,n4⟩:=sb W;grind [eu,un,dH]
    obtain⟨y0,p1,p2⟩:=V;obtain⟨e'',k1',k2,k3,k4⟩:=m4.2 _ _ p1;rw[k1]at k1';cases k1';have hlt:un kk O l x<es.size:=(amW.1 k1).1;have hes':(es.modify (un kk O l x) λe=>{ e with val:=vy})=es.modify (un kk O l x) λe=>{ e with key:=e'.key,val:=vy}:=by
     apply ao3;simp;intro j h1 h2;simp only[Array.getElem_modify];grind
    have:=uB hp h1 m2 m1 m3 (es.modify (un kk O l x) λe=>{ e with val:=vy}) Y (l':=dH kk O l x y) (p':=none) (λbn w' g=>by
     grind [ap3.upd,eu]) (m5.modify λ_=>rfl) trivial
    refine⟨_,?_,this⟩;have hfi:=Um m5.1 k1;simp_all [Instr.entryStore,asInt,tN];grind
  |_=>rw[ho]at E;exact absurd E.symm U
 grind
end
section
variable {P:Program}{F:Nat->Prop}{own:Own}{w:World}
variable {k:Tag}{m:List k.T}{v:Value}
theorem apr.swap{V:List Nat}(h1:pj v=true)(X:apm F own w k m v V):∀ {l:List (List k.T)} {vs:List Value} {bs:List Nat} {i:Nat},apr F own w k l vs bs->i<l.length->bs.Nodup->V.Nodup->(∀ b∈bs,b ∉ V)->
  ∃ E,apr F own w k (l.set i m) (vs.set i v) E/\(∀ b∈E,b∈bs\/b∈V)/\E.Nodup
 |l::ls,u::vs,bs,0,⟨b1,b2,e,h0,h2,h3⟩,_,hn,hbn,hd=>by
  subst e;have O:=amU.1 hn;refine⟨V++b2,⟨V,b2,rfl,h1,X,h3⟩,λb U=>?_,amU.2 ⟨hbn,O.2.1,λa W b U e=>hd b (anv _ U) (e▸W)⟩⟩;grind
 |l::ls,u::vs,bs,i+1,⟨b1,b2,e,h0,h2,h3⟩,hi,hn,hbn,hd=>by
  subst e;have O:=amU.1 hn;obtain⟨E,Y,q2,q3⟩:=apr.swap h1 X h3 (by simpa using hi) O.2.1 hbn λb U=>hd b (anv _ U);refine⟨b1++E,⟨b1,E,rfl,h0,h2,Y⟩,λb U=>?_,amU.2 ⟨O.1,q3,λa W b U e=>?_⟩⟩ <;>grind
 | [],_,_,_,_,hi,_,_,_=>absurd hi (Nat.not_lt_zero _)|_::_,[],_,_,h,_,_,_,_=>h.elim
theorem Step.fwd {h1:List Ob}{E:Own}{w1:World}(s:Step F own w h1 E w1){id nx:Nat}{hd0 hd':Hd}(V:E id=some hd0)(hb:hd0.bs=[])(Y:E nx=some hd')(hv:hd'.v=hd0.v)(h0:pj hd0.v=true)(hl:id<h1.length)(ho:own id≠none):
  Step F own w (cm h1 id (.fwd (some nx))) E w1:=by
 have U:∀ j,ap (cm h1 id (.fwd (some nx))) j=if id=j then .fwd (some nx)else ap h1 j:=λj=>dy ..;have X:(cm h1 id (.fwd (some nx))).length=h1.length:=by rw[cA,if_pos hl]
 refine⟨s.hp.upd (apK.refl _ _ _) (λj=>j=id) (by omega) (λj O=>⟨rfl,by grind,λ_ _ _ _=>rfl⟩) (λj hd O e=>?_) (λj O _=>?_),s.fr,λj O hd=>?_⟩;grind
 subst O;refine⟨hd0,V,?_⟩;rw[U,if_pos rfl];intro i e;grind;have W:id≠j:=λe=>ho (e▸O);rw[U,if_neg W]at hd;exact s.fresh j O hd
variable {h:List Ob}{t:TypeId}{ti:TI}
theorem So(X:Hp F own w h){nx:Nat}(hn:ap9 own h nx)(ht:jg P t=some ti){id E:Nat}{i:Int}{l:List (List k.T)}{vx:Value}(hr:Rel F own w (.rp 1 id i 0) v)(hrx:Rel F own w (.os E) vx)(hne:id≠E)(hsz:ti.size=1)
  (ho:ap h id=.apw k l) (ho2:ap h E=.row k m):∃ bn w',(Instr.storeAt t v vx).run P w=.ok () w'/\Step F own w (bb h [(id,.dead),(E,.dead),(nx,.apw k (l.set i.toNat m)),(id,.fwd (some nx))]) bn w':=by
 cases hr with
 |rp h1 h2 h3=>
 rename_i n cap b o hd;obtain⟨O,g1,rfl,g2⟩:=ij hrx;obtain⟨hd',e0,e⟩:=X.at ho rfl;rw[h1]at e0;cases e0;obtain⟨hd2',e0,hm⟩:=X.at ho2 rfl;rw[g1]at e0;cases e0;rcases e with⟨q,_⟩ | ⟨b',o',cap',cs,ty,bs,e1,e2,e3,e4,e5,e6,e7,e8,e9⟩;grind
 have e1':=e1;rw[h2]at e1;simp only[amF,alK,am6]at e1;obtain⟨⟨rfl,rfl,_⟩,rfl,rfl⟩:=e1;obtain⟨cs',w',q1,W,q3,q4,q5⟩:=xI (P:=P) ht hrx (xs:=[.os E]) rfl (by rw[hsz];rfl) (λj s V v hv=>by
  cases j with
  |zero=>simp at V;subst V;obtain⟨hd3,_,rfl,k2⟩:=ij hv;exact mn k2
  |succ j=>simp at V) (off:=o+i.toNat) e4 (by simp;omega)
 have hnd:bs.Nodup/\b ∉ bs:=by grind
 have hbb:b∈hd.bs:=by grind
 have Y:∀ c∈hd.bs,c ∉ O.bs:=λc hc hc2=>hne (X.inj id E hd O c h1 g1 hc hc2);have hnd2:O.bs.Nodup:=by rcases hm.blocks with e| ⟨c,e⟩ <;>rw[e] <;>simp
 obtain⟨U,r1,r2,r3⟩:=e9.swap (i:=i.toNat) g2 hm h3 hnd.1 hnd2 (λc hc=>Y c (by grind));have hb':b ∉ U:=λhm=>by
  grind
 have hK:∀ id'∈[id,E],∃ hd,own id'=some hd:=by grind
 have hKl:id<h.length:=X.dom _ _ h1;have hnk:nx ∉ [id,E]:=λhm=>by obtain⟨hd,e⟩:=hK nx hm;rw[hn.none]at e;cases e
 have hu:cs'[o+i.toNat]? =some O.v:=by
  obtain⟨u,k1,k2⟩:=q4 (o+i.toNat) (alJ _) (by simp);obtain⟨hd3,k3,k4,_⟩:=ij (k2 (.os E) (by simp));grind
 have st:=kK (w':=w') X hn [id,E] hK ⟨none,hd.v,hd.vs.set i.toNat O.v,b::U⟩ (.apw k (l.set i.toNat m)) (λc hc=>by
   grind)
  (λc _ hno=>W.other c λe=>hno ⟨id,by simp,hd,h1,e▸hbb⟩) (by rw[W.size];omega) W.os W.tape W.output
  (λbn g=>.inr ⟨b,o,cap,cs',ty,U,by grind,rfl,ami.2 ⟨hb',r3⟩,W.here,by omega,by grind,by grind,λj u V=>by
    rw[anA]at V;grind,r1.carry g.apM λc hc=>W.other c λe=>hb' (e▸hc)⟩)
 have hmv:=j7 nx (.apw k (l.set i.toNat m)) [id,E] h 0 hnk (λj V=>by obtain⟨hd,e⟩:=hK j V;exact X.dom _ _ e);have hidn:id≠nx:=λe=>hnk (e▸by simp);have:=st.fwd (id:=id) (nx:=nx) (hd0:= { hd with bs:=[]}) (hd':=⟨none,hd.v,hd.vs.set i.toNat O.v,b::U⟩) (by grind [Own.move]) rfl (by simp[Own.move]) rfl (by show pj hd.v=true;rw[h2];rfl) (alT hKl hmv.2.1) (by rw[h1];simp);exact⟨_,w',by grind,this⟩
def EG {k:Tag}(a:Option Addr):∀ n:Nat,apr F own w k (List.replicate n []) (List.replicate n (.slice a 0 0)) []
 |0=>rfl|n+1=>⟨[],[],rfl,rfl,.inl ⟨a,rfl,rfl,rfl⟩,EG a n⟩
variable {r:OR}
theorem Yb(hp:Hp F own w h){nx:Nat}(hn:ap9 own h nx){te tr:TI}(ht:jg P t=some ti)(hte:jg P ti.elem=some te)(hsl:ti.isSlice=true){sl sc:SV}{vl vc:Value}(hrl:Rel F own w sl vl)(hrc:Rel F own w sc vc)(V:Hh nx te tr sl sc=r)(hne:r≠ .bad):
  CC F own w h ((Instr.makeSlice t vl vc).run P w) r:=by
 obtain⟨i,d,z,hi,hd,hz,hq,rfl⟩:=bV ht;obtain⟨U,de,ze,W,hde,hze,hqe,E⟩:=bV hte;cases d <;>simp[dG]at hsl;rename_i e;simp only[dG]at W;unfold Hh at V;split at V
 ·rename_i n c;have el:=cG hrl;have ec:=cG hrc;subst el;subst ec;unfold XS at V;split at V
  ·rename_i k aqr;cases O:Nat.beq te.size 1&&XR te.zero&&Nat.ble 1 te.bytes with
   |false=>grind
   |true=>
   rw[O]at V;simp only[cond_true]at V;subst V;simp only[alG]at O;have hes:te.size=U.size:=by rw[E];rfl
   have heb:te.bytes=U.bytes:=by rw[E];rfl
   have hez:te.zero=svs ze:=by simp_all [dG]
   have t1:U.size=1:=by simp_all
   have hzc:ze.cells= #[.slice none 0 0]:=by
    have:=O.1.2;rw[hez]at this;unfold XR at this;split at this
    rename_i q;unfold svs at q;have q2:ze.cells.toList=[.slice none 0 0]:=by
     simp_all
    grind
    cases this
   refine⟨_,_,_,_,rfl,λ⟨hc1,Y,hc3⟩ =>?_⟩;subst hc1;rw[heb]at hc3;have hby:1<=U.bytes:=by simp_all
   have hnb:n<=n*(U.bytes:Int):=by
    have:n*1<=n*(U.bytes:Int):=anr (by omega) Y;omega
   have hnm:n<=(aH:Int):=by grind [dI,aH]
   refine⟨hnm,?_⟩;have X:=run_make (P:=P) w t e U ze hd W hze .i64 .i64 n n Y (amD _) (by grind [dI]) (by grind [aH]);refine⟨_,_,_,X,Rel.os (F:=F) (id:=nx) (hd:=⟨none,.slice (some ⟨w.heap.size,0,none⟩) n.toNat n.toNat,List.replicate n.toNat (.slice none 0 0),[w.heap.size]⟩) (Own.apy _ _ _) rfl,uu hp hn (w1:=w) ⟨rfl,rfl,rfl,rfl⟩ _ _ _ rfl λbn g=>.inr ⟨w.heap.size,0,n.toNat,_,e,[],by simp,rfl,by simp,kz _ _,?_,by simp,by simp;omega,λq x hx=>?_,EG none _⟩⟩;grind [size_madeCells]
   have hql:q<n.toNat:=by grind
   simp_all [madeCells,ao4]
  grind
 grind
theorem Sp(hp:Hp F own w h){nx:Nat}(hn:ap9 own h nx)(ht:jg P t=some ti){s X:SV}{Y:Value}(hr:Rel F own w s v)(W:Rel F own w X Y)
  (E:rh ti.size nx h s X=r) (U:r≠ .bad):∃ ups bn w',r=.eff True True ups .any/\(Instr.storeAt t v Y).run P w=.ok () w'/\Step F own w (bb h ups) bn w':=by
 have old:rg ti.size h s (pg X)=r->∃ ups bn w',r=.eff True True ups .any/\(Instr.storeAt t v Y).run P w=.ok () w'/\Step F own w (bb h ups) bn w':=λE=>by
  obtain⟨ups,e,w',e1,e2⟩:=Sj (P:=P) hp ht hr W E U;grind
 unfold rh at E;split at E
 rename_i sz id i off O;cases hg:JB (ap h id)with
 |false=>grind
 |true=>
  rw[hg]at E;simp only[cond_true]at E;cases hc:Nat.beq ti.size 1&&Nat.beq sz 1&&Nat.beq off 0&& !(Nat.beq id O)with
  |false=>grind
  |true=>
   rw[hc]at E;simp only[cond_true]at E;simp only[alG,al0]at hc;have c1:=alH hc.1.1.1;have c2:=alH hc.1.1.2;have c3:=alH hc.1.2;have c4:id≠O:=λe=>by simp_all
   subst c2;subst c3;cases ho:ap h id with
   |apw k l=>
    rw[ho]at E;simp only[Eb]at E;cases V:ap h O with
    |row k' m'=>
     rw[V]at E;simp only[Ok]at E;split at E
     rename_i ek;subst ek;obtain⟨bn,w',e1,e2⟩:=So (P:=P) hp hn ht hr W c4 c1 ho V;exact⟨_,bn,w',E.symm,e1,e2⟩;exact absurd E.symm U
    |_=>rw[V]at E;exact absurd E.symm U
   |_=>rw[ho]at hg;cases hg
 grind
theorem EH{l:List k.T}{lo hi:Int}(h:hi.toNat<=l.length):(wF k l lo hi).length=l.length:=by
 grind [wF]
theorem Hl {z:Array Value}{n i:Nat}(h:i<n*z.size):(Builtin.zeroCells z n)[i]? =some (z[i % z.size]!):=by
 simp[Builtin.zeroCells,h]
theorem Yc(hp:Hp F own w h){te:TI}(ht:jg P t=some ti)(hte:jg P ti.elem=some te){l:List SV}{vs:Array Value}(hl:apx F own w l vs)(V:yZ ti te h l=r)(hne:r≠ .bad)(ty:TypeId):
  CC F own w h ((Builtin.clear_ #[t] ty vs).run P w) r:=by
 obtain⟨i,d,z,hi,hd,hz,hq,rfl⟩:=bV ht;obtain⟨ie,de,W,hie,hde,hze,hqe,hte'⟩:=bV hte;unfold yZ at V;split at V
 ·rename_i s id lo E;obtain⟨vs⟩:=vs;have hsz:=hl.1;match vs,hsz with
  | [v0],_=>
  have hr:Rel F own w (.vw s id lo E) v0:=hl.2 0 _ rfl;cases hsl:(dG P t i d).isSlice with
  |false=>grind
  |true=>
  rw[hsl]at V;simp only[cond_true]at V;cases d <;>simp[dG]at hsl;rename_i e;simp only[dG]at hie;cases hr with
  | @vw _ _ cap _ _ hd' a h1 h2 hcap3=>
  cases ho:ap h id with
  |row k m=>
   rw[ho]at V;simp only[aaX]at V;cases hc:Nat.beq s (aa k)&&Qq k te.tag with
   |false=>grind
   |true=>
    rw[hc]at V;simp only[cond_true]at V;subst V;rw[alG]at hc;have hs:=alH hc.1;have U:te.tag=some k:=by
     cases hq:te.tag with
     |none=>grind [Qq]|some b=>rw[hq]at hc;rw[uv (k:=k) (k':=b) hc.2]
    have aqr:yB P e ie=some k:=by rw[hte']at U;exact U
    obtain⟨t1,t2,t3,t4⟩:=z5 (F:=F) (own:=own) (w:=w) aqr;have X:=(t4 W hze).1;have hzs:W.cells.size=aa k:=by rw[X.1,bG]
    have hzv:(zeroValue e).run P w=.ok W w:=by simp[zeroValue,typeInfo,hie,hze]
    obtain⟨hdd,e0,O⟩:=hp.at ho rfl;rw[h1]at e0;cases e0;have O:apm F own w k m hd'.v hd'.bs:=O;refine⟨_,_,_,_,rfl,λ_=>⟨trivial,.tuple #[],own,?_⟩⟩;simp only[bb];by_cases hlt:E.toNat<=lo.toNat
    have hn0:E.toNat - lo.toNat=0:=by omega
    refine⟨w,?_,.any _,?_⟩;rw[hn0];cases a <;>simp[Builtin.clear_,run_underlying hd];rw[wF,if_pos hlt];exact Io hp h1 _ O;obtain⟨b,o,n,cap',e1,e2,e3⟩:=h2.resolve_left hlt;subst e3;rcases O with⟨a',q1,rfl,q2⟩ | ⟨b',o',cap2,cs,ty2,q1,q2,q3,q4,q5,q6,q7⟩;grind
    rw[e1]at q1;simp only[amF,alK,am6]at q1;obtain⟨⟨rfl,rfl,_⟩,rfl,rfl⟩:=q1;subst hs;have hN:(E.toNat - lo.toNat)≠0:=by omega
    obtain⟨N,hN'⟩:∃ N,E.toNat - lo.toNat=N+1:=⟨E.toNat - lo.toNat - 1,by omega⟩;have hmul:lo.toNat*aa k+(E.toNat - lo.toNat)*aa k<=cap'*aa k:=by
     rw[<-aof];exact alX _ (by omega)
    have hzc:(Builtin.zeroCells W.cells (E.toNat - lo.toNat)).toList.length=(E.toNat - lo.toNat)*aa k:=by rw[Array.length_toList,rk,hzs]
    have hone:∀ v∈(Builtin.zeroCells W.cells (E.toNat - lo.toNat)).toList,v.oneCell'=true:=λv hv=>by
     have hm:v∈W.cells:=by
      simp only[Builtin.zeroCells]at hv;simp at hv;obtain⟨w9,hv1,hv2⟩:=hv;have hpos:0<W.cells.size:=by
       grind
      have:=anP w9 hpos;grind
     obtain⟨j,hj,rfl⟩:=aoJ hm;have Y:j< (cellsOf k (et k)).length:=by rw[<-X.1];exact hj
     have:=X.2 j _ (alP Y);have h9:=JQ (alP Y) this;rw[al_,anc hj]at h9;exact mn h9
    obtain⟨cs',w',p1,p2,p3,p4⟩:=jP (P:=P) (b:=b) (o:=o+lo.toNat*aa k) (ty:=ty2) (Builtin.zeroCells W.cells (E.toNat - lo.toNat)).toList 0 w cs q3 (by omega) hone;refine⟨w',?_,.any _,pu hp h1 (b:=b) (by rw[q2];simp) p2.size p2.other p2.os p2.tape p2.output _ λg=>.inr ⟨b,o,cap',cs',ty2,?_,q2,p2.here,by omega,?_,?_,?_⟩⟩;simp_all [Builtin.clear_,run_underlying];grind [EH]
    grind [EH]
    grind [EH]
    intro q x hx j s hj;rw[wF,if_neg hlt]at hx;have Y:j<aa k:=by grind [bG]
    rw[p4,hzc];have hql:q<m.length:=by
     grind
    by_cases hin:lo.toNat<=q/\q<E.toNat
    have hx':x=et k:=by
     grind [List.getElem?_append_left]
    subst hx';have hlow:lo.toNat*aa k<=q*aa k:=alX _ hin.1;have hup:q*aa k+aa k<=E.toNat*aa k:=by rw[<-an9];exact alX _ hin.2
    have hsub:(E.toNat - lo.toNat)*aa k=E.toNat*aa k - lo.toNat*aa k:=ao5 _ _ _;rw[if_pos (by omega)];refine⟨W.cells.getD j undef,?_,(X.2 j s hj).mono g⟩;have hidx:o+q*aa k+j - (o+lo.toNat*aa k+0)=(q - lo.toNat)*aa k+j:=by rw[ao5];omega
    rw[hidx,anu];have hlt2:(q - lo.toNat)*aa k+j< (E.toNat - lo.toNat)*aa k:=by omega
    have hmod:((q - lo.toNat)*aa k+j) % aa k=j:=by rw[Nat.mul_comm,Nat.mul_add_mod,aom Y]
    have:=Hl (z:=W.cells) (n:=E.toNat - lo.toNat) (i:=(q - lo.toNat)*aa k+j) (by grind);simp_all;rw[if_neg (by
     rintro⟨a1,a2⟩;apply hin;rw[ao5]at a2;refine⟨?_,?_⟩;apply amg;intro hc;have:(q+1)*aa k<=lo.toNat*aa k:=alX _ (by omega);grind
     apply amg;intro hc;have h5:E.toNat*aa k<=q*aa k:=alX _ (by omega);omega)]
    have hx2:m[q]? =some x:=by
     by_cases h0:q<lo.toNat
     grind
     rw[anF (by simp;omega),aoa]at hx;grind
    obtain⟨u,u1,u2⟩:=q7 q x hx2 j s hj;exact⟨u,u1,u2.mono g⟩
  |_=>rw[ho]at V;exact absurd V.symm hne
 grind
end
end Go.Sx
end
section
namespace Go.Sx
variable {P:Program}
variable {since clock:Nat}{seen:Array Nat}{es:Array MapEntry}
theorem J0{w:World}{ty:TypeId}{b bm c0:Nat}(V:w.heap[b]? =some (.mapIter (some bm) since seen c0))(hm:w.heap[bm]? =some (.map es clock))(E:∀ x∈es.toList,x.born<since)(W:since<=c0):
  ((leftOf es seen).size=0/\(Instr.next (.pointer (some ⟨b,0,none⟩)) false ty).run P w=.ok (.tuple #[.bool false]) w)\/
  ∃ e∈(leftOf es seen).toList,∃ w1:World,(w1=w\/w1=w.drew)/\(Instr.next (.pointer (some ⟨b,0,none⟩)) false ty).run P w=.ok (.tuple #[.bool true,e.key,e.val]) { w1 with heap:=w1.heap.setIfInBounds b (.mapIter (some bm) since (seen.push e.born) clock)}:=by
 simp only[Instr.next,getObj,al9,Sem.run,V,hm,Result.andThen,next_test_false seen es since c0 E W,alO,if_false];unfold leftOf;have O:∀ x∈(Array.filter (λe=>!seen.contains e.born) es).toList,x.born<since:=λx hx=>E x (by grind);generalize Array.filter (λe=>!seen.contains e.born) es=L at O |-;have e1:L.filter (λx=>decide (x.born<since))=L:=Array.filter_eq_self.2 (λx hx=>by grind);have e2:L.filter (λx=>decide (x.born>=since))= #[]:=by
  simp_all
 simp only[e1,e2,Array.append_empty];by_cases h0:L.size=0
 simp_all [Question.forced];right;have Y:L.isEmpty=false:=by grind
 simp only[Y,alO,if_false,Array.empty_append,Array.size_map];have X:∃ (j:Nat) (w1:World),j<L.size/\(w1=w\/w1=w.drew)/\(choose (Question.mapNext L.size)).run P w=.ok j w1:=by
  by_cases hf:L.size<=1
  exact⟨0,w,by omega,.inl rfl,by simp[choose,Sem.run,Question.forced,hf]⟩;exact⟨_,w.drew,anP _ (by omega),.inr rfl,by
   simp only[choose,Sem.run,Question.forced,decide_eq_true_eq,hf,if_false,Question.cut];rfl⟩
 obtain⟨j,w1,hj,U,hrun⟩:=X;have hb1:w1.heap[b]? =some (.mapIter (some bm) since seen c0):=by
  rcases U with rfl|rfl;exact V;exact V
 refine⟨L[j],by simp,w1,U,?_⟩;simp_all [setObj,Sem.run]
theorem Hm{w:World}{b bm:Nat}{e:MapEntry}(O:w.heap[b]? =some (.mapIter (some bm) since (seen.push e.born) clock))(W:w.heap[bm]? =some (.map es clock))(V:e∈es.toList)(U:(es.toList.map (·.born)).Nodup):
  (Instr.entry (.pointer (some ⟨b,0,none⟩))).run P w=.ok (.tuple #[e.key,e.val]) w:=by
 have E:es.find? (·.born==e.born)=some e:=by rw[<-Array.find?_toList];exact find_born e es.toList U V
 simp only[Instr.entry,getObj,al9,Sem.run,O,W,Result.andThen,Array.back?_push,bne_self_eq_false,alO,if_false,E];rfl
end Go.Sx
end
