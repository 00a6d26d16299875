/- Part of the proof of the law RefuseHoldsSpec (the Upto form). -/
import Derived.Test.YtaikmgjfkejlkaaGreatT103
import Derived.TacticsIn
import Derived.OrdersIn
set_option linter.all false
set_option maxHeartbeats 4000000
set_option maxRecDepth 100000
section
namespace Go.Sx
open Go.RowKit
inductive PF:SV->Prop where
 |any:PF .any
 |v (x:Value):PF (.v x)
 |e0:PF .e0
 |rc {k:Tag} {l:List k.T}:PF (.rc k l)
 |rs {k:Tag} {l:List k.T}:PF (.rs k l)
 |rm {k k2:Tag} {l:List (k.T×k2.T)}:PF (.rm k k2 l)
 |ep {l:List SV} {off:Nat}:(∀ (j:Nat) (s:SV),l[j]? =some s->PF s)->PF (.ep l off)
 |ls {z:Nat} {l:List SV}:(∀ (j:Nat) (s:SV),l[j]? =some s->PF s)->PF (.ls z l)
 |agg {l:List SV}:(∀ (j:Nat) (s:SV),l[j]? =some s->PF s)->PF (.agg l)
 |tup {l:List SV}:(∀ (j:Nat) (s:SV),l[j]? =some s->PF s)->PF (.tup l)
 |fn {f:FuncId} {l m:List SV}:(∀ (j:Nat) (s:SV),l[j]? =some s->PF s)->(∀ (j:Nat) (s:SV),m[j]? =some s->PF s)->PF (.fn f l m)
def vn {k:Tag}{x:k.T}{j:Nat}{s:SV}(h:(cellsOf k x)[j]? =some s):PF s:=by
 rcases zw h with⟨y,rfl,_⟩ | ⟨k',l',rfl,_⟩ | ⟨k',k2,l',rfl,_⟩ | ⟨f,rfl,_⟩;exact .v y;exact .rs;exact .rm;exact .fn (λj s E=>by simp at E) (λj s E=>by simp at E)
def wN (k:Tag)(x:k.T):PF (svT k x):=by
 unfold svT;cases qx k with
 |true=>exact .agg λj s E=>vn E
 |false=>
  simp[gW];cases h:(cellsOf k x)[0]? with
  |none=>exact .any|some s=>exact vn h
def im:∀ (n:Nat) (s:SV),dC n s=true->PF s
 |n,.v x,_=>.v x|n,.rs k l,_=>.rs|n,.rm _ _ _,_=>.rm|n,.e0,_=>.e0|n,.rc k l,_=>.rc|n,.any,_=>.any
 |n+1,.ep l _,h=>.ep λj s E=>im n s (by grind [dC])
 |n+1,.ls _ l,h=>.ls λj s E=>im n s (by grind [dC])
 |n+1,.agg l,h=>.agg λj s E=>im n s (by grind [dC])
 |n+1,.tup l,h=>.tup λj s E=>im n s (by grind [dC])
 |n+1,.fn _ l m,h=>.fn (λj s E=>im n s (by simp[dC]at h;grind)) (λj s E=>im n s (by simp[dC]at h;grind))
 |0,.ep _ _,h|0,.ls _ _,h|0,.agg _,h|0,.tup _,h|0,.fn _ _ _,h=>by simp[dC]at h
 |0,.ptr _ _,h|0,.os _,h|0,.rp _ _ _ _,h|0,.gr _ _,h|0,.gp _ _ _ _ _,h|0,.nw _ _,h|0,.nm _ _ _,h|0,.ng _ _,h|0,.gd _ _ _,h|0,.vw _ _ _ _,h=>by simp[dC]at h
 |_+1,.ptr _ _,h|_+1,.os _,h|_+1,.rp _ _ _ _,h|_+1,.gr _ _,h|_+1,.gp _ _ _ _ _,h|_+1,.nw _ _,h|_+1,.nm _ _ _,h|_+1,.ng _ _,h|_+1,.gd _ _ _,h|_+1,.vw _ _ _ _,h=>by simp[dC]at h
section
variable {P:Program}{F F':Nat->Prop}{own l5:Own}{w w':World}{ts:Tis}
variable {v:Value}
theorem Rel.atF{s:SV}(hr:Rel F own w s v)(V:PF s)(ho:∀ b,¬dn F own b->¬dn F' l5 b):Rel F' l5 w s v:=by
 induction hr with
 |any v=>exact .any v|v x=>exact .v x|ptr h1 h2=>cases V|os h1 h2=>cases V|e0=>exact .e0|rc _ W=>exact .rc (W .rs)|rp h1 h2 h3=>cases V|gr h1 h2 h3=>cases V|gp h1 h2 h3=>cases V|vw h1 h2 h3=>cases V
 |ep c h1 _ W=>cases V with|ep X=>exact .ep c (λj s E=>⟨ho _ (h1 j s E).1,(h1 j s E).2⟩) λj s E=>W j s E (X j s E)
 |rs c O h0' h1 _ W=>exact .rs c O h0' (λi x hi j s E=>⟨ho _ (h1 i x hi j s E).1,(h1 i x hi j s E).2⟩) λi x hi j s E=>W i x hi j s E (vn E)
 |rs0=>exact .rs0
 |ls c hz O h1 _ W=>cases V with|ls X=>exact .ls c hz O (λj s E=>⟨ho _ (h1 j s E).1,(h1 j s E).2⟩) λj s E=>W j s E (X j s E)
 |rm ck cv es clock O h1 h2 h3 _ _ Y ih2=>exact .rm ck cv es clock (ho _ O) h1 h2 h3 (λi x hi=>Y i x hi (wN _ _)) (λi x hi=>ih2 i x hi (wN _ _))
 |rm0=>exact .rm0
 |agg O _ W=>cases V with|agg X=>exact .agg O λj s E=>W j s E (X j s E)
 |tup O _ W=>cases V with|tup X=>exact .tup O λj s E=>W j s E (X j s E)
 |fn O h0' _ _ Y ih2=>cases V with|fn X hq'=>exact .fn O h0' (λj s E=>Y j s E (X j s E)) λj s E=>ih2 j s E (hq' j s E)
theorem rU{s:SV}(h:Rel F dI w s v):PF s:=by
 generalize V:dI=o at h;induction h with
 |any v=>exact .any|v x=>exact .v x|ptr h1 h2=>subst V;cases h1|os h1 h2=>subst V;cases h1|e0=>exact .e0|rc _ _=>exact .rc|rp h1 h2 h3=>subst V;cases h1|gr h1 h2 h3=>subst V;cases h1|gp h1 h2 h3=>subst V;cases h1|vw h1 h2 h3=>subst V;cases h1
 |ep c h1 _ O=>exact .ep λj s E=>O j s E
 |rs c X h0' h1 _ O=>exact .rs|rs0=>exact .rs
 |ls c hz X h1 _ O=>exact .ls λj s E=>O j s E
 |rm ck cv es clock X h1 h2 h3 _ _ W Y=>exact .rm|rm0=>exact .rm
 |agg X _ O=>exact .agg λj s E=>O j s E
 |tup X _ O=>exact .tup λj s E=>O j s E
 |fn X h0' _ _ W Y=>exact .fn (λj s E=>W j s E) λj s E=>Y j s E
theorem sI {α β:Type}{f:α->β}{l:List α}{j:Nat}{s:β}(h:(l.map f)[j]? =some s):∃ x,l[j]? =some x/\f x=s:=by
 simpa using h
theorem p9 {b:Nat}(h:¬F b):¬dn F dI b:=by
 rintro (E| ⟨id,hd,e,_⟩);exact h E;cases e
theorem NB {b:Nat}(h:¬dn F own b):¬F b:=λE=>h (.inl E)
theorem S6(X:∀ b,F' b->F b){k:Tag}{l:List k.T}{bs:List Nat}(hr:atJ F own w k l v bs)(V:∀ b∈bs,¬F b):Rel F' dI w (.rs k l) v:=by
 rcases hr with⟨a,rfl,rfl,_⟩ | ⟨b,o,cap,cs,ty,rfl,rfl,h3,h4,h5,Y,W⟩;exact .rs0;refine .rs (λi j=>cs.getD (o+i*ae k+j) undef) h5 Y (λi x hi j s E=>?_) (λi x hi j s E=>?_);have⟨u,e1,e2⟩:=W i x hi j s E;refine⟨p9 λO=>V b (by simp) (X _ O),?_⟩;rw[eU h3];simp_all;have⟨u,e1,e2⟩:=W i x hi j s E;have:cs.getD (o+i*ae k+j) undef=u:=by simp_all
 rw[this];exact e2.atF (vn E) λb hb=>p9 λO=>hb (.inl (X _ O))
variable {h:List Ob}
theorem Yu(hp:Hp F own w h){id sz cap:Nat}{lo hi:Int}{hd:Hd}{a:Option Addr}(h1:own id=some hd)(h2:afy hd.v sz lo hi a)(h3:hi.toNat - lo.toNat<=cap):Rel F dI w (acb sz lo hi (aq h id)) (.slice a (hi.toNat - lo.toNat) cap):=by
 cases ho:aq h id with
 |row k l=>
  simp[acb];cases hb:Nat.beq sz (ae k)with
  |false=>exact .any _
  |true=>
   have⟨hd',e0,e⟩:=hp.at ho rfl;rw[h1]at e0;cases e0;have avr:hi.toNat<=lo.toNat->Rel F dI w (.rs k ((l.take hi.toNat).drop lo.toNat)) (.slice a (hi.toNat - lo.toNat) cap):=λhle=>by
    have V:(l.take hi.toNat).drop lo.toNat=[]:=asP XN;have e2:hi.toNat - lo.toNat=0:=XM
    rw[V,e2];exact .rs0
   by_cases hle:hi.toNat<=lo.toNat
   grind
   rcases h2 with h2| ⟨b',X,n',cap',q1,q2,rfl⟩;omega;rcases e with⟨a0,V,rfl,_⟩ | ⟨b,o,cap0,cs,ty,V,e2,e3,e4,e5,e6,e7⟩;grind
   rw[q1]at V;simp only[asd,aqd,as6]at V;have⟨⟨rfl,rfl,_⟩,rfl,rfl⟩:=V;have W:((l.take hi.toNat).drop lo.toNat).length=hi.toNat - lo.toNat:=XN
   have O:∀ i x,((l.take hi.toNat).drop lo.toNat)[i]? =some x->l[lo.toNat+i]? =some x:=λi x E=>by
    grind
   have hix:∀ i j,b'.succ=b'.succ->X+lo.toNat*ae k+i*ae k+j=X+(lo.toNat+i)*ae k+j:=λi j _=>XN
   rw[<-W];refine .rs (λi j=>cs.getD (X+lo.toNat*ae k+i*ae k+j) undef) XM XM (λi x E j s Y=>?_) (λi x E j s Y=>?_);have⟨u,m1,m2⟩:=e7 _ x (O i x E) j s Y;refine⟨p9 λhf=>hp.apart id hd b' h1 (by rw[e2];simp) hf,?_⟩;rw[eU e3,hix i j rfl];simp_all;have⟨u,m1,m2⟩:=e7 _ x (O i x E) j s Y;have:cs.getD (X+lo.toNat*ae k+i*ae k+j) undef=u:=by simp_all
   rw[this];exact m2.atF (vn Y) λb hb=>p9 λhf=>hb (.inl hf)
 |_=>exact .any _
theorem Qb (k:Tag)(l:List (List k.T)):(∃ (k':Tag) (l':List k'.T),Po k l=.rs k' l'/\l'.length=l.length/\ae k'=1/\∀ (i:Nat) (x:k'.T),l'[i]? =some x->cellsOf k' x=[.rs k (l.getD i [])])\/Po k l=.any:=by
 cases k <;>first|exact .inr rfl|(left;exact⟨_,_,rfl,rfl,rfl,λi x E=>by simp[E,cellsOf]⟩)
theorem acr(E:Hp F own w h){id:Nat}(hr:Rel F own w (.os id) v):Rel F dI w (frz (aq h id)) v:=by
 obtain⟨hd,h1,rfl,h2⟩:=i7 hr;cases ho:aq h id with
 |row k l=>
  have⟨hd',e0,e⟩:=E.at ho rfl;rw[h1]at e0;cases e0;exact S6 (λ_ h=>h) e λb W=>E.apart id hd b h1 W
 |fz k l=>
  have⟨hd',e0,e⟩:=E.at ho rfl;rw[h1]at e0;cases e0;exact Rel.atF e .rs λb W=>p9 (NB W)
 |mp kk vk l O=>
  show Rel F dI w (bif noE O then .rm kk vk l else .any) hd.v;cases hq:noE O with
  |false=>exact .any _
  |true=>
   have⟨hd',e0,b,es,clk,m1,m2,m3,m4,_⟩:=E.at ho rfl;rw[lz hq]at m4;rw[h1]at e0;cases e0;rw[m1];have hnb:¬dn F dI b:=p9 (E.apart id hd b h1 (by simp[m2]));have hg:∀ i,es[i]? =some ⟨(es.getD i default).key,(es.getD i default).val,(es.getD i default).born⟩\/es.size<=i:=λi=>by
    rcases ari i es.size with hlt|hge <;>simp_all
   refine .rm (λi=>(es.getD i default).key) (λi=>(es.getD i default).val) es clk hnb m3 m4.1 (λi x hi=>?_) (λi x hi=>?_) (λi x hi=>?_);have⟨e,X,e2,e3,Y⟩:=m4.2 i x hi;grind
   have⟨e,X,e2,e3,Y⟩:=m4.2 i x hi;have:es.getD i default=e:=by simp_all
   rw[this];exact e3.atF (wN _ _) λb W=>p9 (NB W);have⟨e,X,e2,e3,Y⟩:=m4.2 i x hi;have:es.getD i default=e:=by simp_all
   rw[this];exact Y.atF (wN _ _) λb W=>p9 (NB W)
 |atH k l=>
  have⟨hd',e0,e⟩:=E.at ho rfl;rw[h1]at e0;cases e0;show Rel F dI w (Po k l) hd.v;rcases Qb k l with⟨k',l',q1,q2,q3,q4⟩ |q;rw[q1];rcases e with⟨X,rfl,_⟩ | ⟨b,o,cap,cs,ty,bs,X,e2,e3,Y,e5,e6,e7,e8,e9⟩;have:l'=[]:=aqn XM;rw[this,X];exact .rs0;rw[X,<-q2];have hvl:=e9.len;refine .rs (λi j=>hd.vs.getD i undef) XM XM (λi x hi j s V=>?_) (λi x hi j s V=>?_);rw[q4 i x hi]at V;cases j with
  |succ j=>simp at V
  |zero=>
   refine⟨p9 (E.apart id hd b h1 (by simp[e2])),?_⟩;rw[q3,eU Y];grind
  have hil:i<hd.vs.length:=XN
  rw[q4 i x hi]at V;cases j with
  |succ j=>simp at V
  |zero=>
   simp at V;subst V;have⟨b1,k1,k2,k3,k4⟩:=e9.get (vh (d:=undef) hil);exact S6 (λ_ h=>h) k3 λc hc=>E.apart id hd c h1 XN
  rw[q];exact .any _
 |_=>exact .any _
theorem atT.ep {k:Tag}{l:List k.T}{o b:Nat}{cs:Array Value}{ty:TypeId}(W:w.heap[b]? =some (.cells cs ty (0,0)))(O:atT F own w k l o cs)(V:¬F b){i:Nat}(hi:i<l.length)(off:Nat):Rel F dI w (.ep (cellsOf k (l.getD i (eT k))) off) (.pointer (some ⟨b,o+i*ae k+off,none⟩)):=by
 refine .ep (λj=>cs.getD (o+i*ae k+j) undef) (λj s E=>?_) (λj s E=>?_);have⟨e1,e2⟩:=O.get hi E;grind [p9,eU]
 have⟨e1,e2⟩:=O.get hi E;exact e2.atF (vn E) λb V=>p9 (NB V)
theorem CF(V:Hp F own w h):∀ (n:Nat) (s:SV) (v:Value),Rel F own w s v->Rel F dI w (iW h n s) v:=by
 have rI:∀ (n:Nat) (s:SV) (v:Value),Rel F own w s v->(∀ l o,s≠ .ep l o)->(∀ z l,s≠ .ls z l)->(∀ l,s≠ .agg l)->(∀ l,s≠ .tup l)->(∀ f l m,s≠ .fn f l m)->(∀ i o,s≠ .ptr i o)->Rel F dI w (iW h n s) v:=by
  intro n s v hr n1 n2 n3 n4 n5 n6;cases hr with
  |any=>cases n <;>exact .any _|v x=>cases n <;>exact .v _|ptr=>grind|os h1 h2=>cases n <;>exact acr V (.os h1 h2)|vw h1 h2 h3=>cases n <;>exact Yu V h1 h2 h3|e0=>cases n <;>exact .e0
  |rc X=>cases n <;>exact X.atF .rs λb Y=>p9 (NB Y)
  |rp h1 h2 h3=>
   rename_i E id off nn cap b o i hd;have key:Rel F dI w (bif Nat.beq E 0 then .any else aca E off i (aq h id)) (.pointer (some ⟨b,o+i.toNat*E+off,none⟩)):=by
    cases hz:Nat.beq E 0 with
    |true=>exact .any _
    |false=>
     cases ho:aq h id with
     |row k l=>
      simp[aca];cases Y:Nat.beq E (ae k)with
      |false=>exact .any _
      |true=>
       have hsz:=ap_ Y;have⟨hd',e0,e⟩:=V.at ho rfl;rw[h1]at e0;cases e0;rcases e with⟨a,O,_⟩ | ⟨b',o',cap',cs,ty,O,e2,e3,e4,e5,e6,e7⟩;grind
       rw[h2]at O;obtain⟨⟨rfl,rfl,_⟩,rfl,rfl⟩:=O;rw[hsz];exact atT.ep e3 e7 (V.apart id hd b h1 (by simp[e2])) h3 off
     |_=>exact .any _
   cases n <;>exact key
  |gr h1 h2 h3=>
   rename_i id i hd;have key:Rel F dI w (X_ i (aq h id)) v:=by
    cases ho:aq h id with
    |atH k l=>
     have⟨hd',e0,e⟩:=V.at ho rfl;rw[h1]at e0;cases e0;rcases e with⟨_,_,O,_⟩ | ⟨b,o,cap,cs,ty,bs,O,e2,e3,e4,e5,e6,e7,e8,e9⟩;grind
     have⟨b1,k1,k2,k3,k4⟩:=e9.get h2;exact S6 (λ_ h=>h) k3 λc hc=>V.apart id hd c h1 XN
    |_=>exact .any _
   cases n <;>exact key
  |gp h1 h2 h3=>
   rename_i E id off nn cap b o i j hd;have key:Rel F dI w (bif Nat.beq E 0 then .any else Uy E off i j (aq h id)) (.pointer (some ⟨b,o+j.toNat*E+off,none⟩)):=by
    cases hz:Nat.beq E 0 with
    |true=>exact .any _
    |false=>
     cases ho:aq h id with
     |atH k l=>
      simp[Uy];cases Y:Nat.beq E (ae k)with
      |false=>exact .any _
      |true=>
       have hsz:=ap_ Y;have⟨hd',e0,e⟩:=V.at ho rfl;rw[h1]at e0;cases e0;rcases e with⟨_,_,O,_⟩ | ⟨b',o',cap',cs,ty,bs,O,e2,e3,e4,e5,e6,e7,e8,e9⟩;grind
       have⟨b1,k1,k2,k3,k4⟩:=e9.get h2;rcases k3 with⟨a,m1,_⟩ | ⟨b2,o2,cap2,cs2,ty2,m1,m2,m3,m4,m5,m6,m7⟩;grind
       obtain⟨⟨rfl,rfl,_⟩,rfl,rfl⟩:=m1;rw[hsz];exact atT.ep m3 m7 (V.apart id hd b h1 XN) h3 off
     |_=>exact .any _
   cases n <;>exact key
  |ep=>grind
  |rs c X h0' h1 h2=>cases n <;>exact Rel.atF (.rs c X h0' h1 h2) .rs λb Y=>p9 (NB Y)
  |rs0=>cases n <;>exact .rs0|ls=>grind
  |rm ck cv es clock X h1 h2 h3 h4 h5=>cases n <;>exact Rel.atF (.rm ck cv es clock X h1 h2 h3 h4 h5) .rm λb Y=>p9 (NB Y)
  |rm0=>cases n <;>exact .rm0|agg=>grind|tup=>grind|fn=>grind
 intro n;induction n with
 |zero=>
  intro s v hr;cases s <;>first|exact .any _|(refine rI 0 _ _ hr ?_ ?_ ?_ ?_ ?_ ?_ <;>intros <;>(intro e;cases e)) |cases hr
 |succ n ih=>
  intro s v hr;cases s with
  |ptr id off=>
   cases hr with
   |ptr h1 h2=>
    rename_i b hd;simp[iW];cases ho:aq h id with
    |cells l=>
     simp[V7];have⟨hd',e0,b',cs,ty,O,e2,e3,e4,e5⟩:=V.at ho rfl;rw[h1]at e0;cases e0;rw[h2]at O;cases O;have:=Rel.ep (F:=F) (own:=dI) (w:=w) (cells:=l.map (iW h n)) (off:=off) (b:=b) (o:=0) (λj=>cs.getD j undef)
      (λj s W=>by
       refine⟨p9 (V.apart _ _ b h1 (by simp[e2])),?_⟩;have hjl:j<cs.size:=XN
       rw[eU e3];simp[hjl])
      (λj s W=>by
       grind)
     grind
    |_=>exact .any _
  |ep l o=>
   cases hr with
   |ep c h1 h2=>
    exact .ep c (λj s W=>by grind [p9,NB]) (λj s W=>XN)
  |ls z l=>
   cases hr with
   |ls c hz X h1 h2=>
    simp[iW];have:=Rel.ls (F:=F) (own:=dI) (w:=w) (z:=z) (l:=l.map (iW h n)) c (by simpa using hz) X (λj s W=>by obtain⟨x,hx,rfl⟩:=sI W;exact⟨p9 (NB (h1 j x hx).1),(h1 j x hx).2⟩) (λj s W=>XN);grind
  |agg l=>cases hr with|agg X h1=>exact .agg XN λj s W=>XN
  |tup l=>cases hr with|tup X h1=>exact .tup XN λj s W=>XN
  |fn f l m=>cases hr with|fn X h0' h1 h2=>exact .fn XN XN (λj s W=>XN) λj s W=>XN
  |_=>first|(refine rI (n+1) _ _ hr ?_ ?_ ?_ ?_ ?_ ?_ <;>intros <;>(intro e;cases e)) |cases hr
theorem Yv:∀ (n:Nat) (s:SV) (v:Value),PF s->Rel F own w s v->Rel (dn F own) dI w (iW h n s) v:=by
 have E:∀ b,¬dn F own b->¬dn (dn F own) dI b:=λb hb=>p9 hb;intro n;induction n with
 |zero=>
  intro s v W hr;cases W with
  |any=>exact .any _|v x=>exact hr.atF (.v x) E|e0=>exact hr.atF .e0 E
  |rc=>cases hr with|rc O=>exact O.atF .rs E
  |rs=>exact hr.atF .rs E|rm=>exact hr.atF .rm E|_=>exact .any _
 |succ n ih=>
  intro s v W hr;cases W with
  |any=>exact .any _|v x=>exact hr.atF (.v x) E|e0=>exact hr.atF .e0 E
  |rc=>cases hr with|rc O=>exact O.atF .rs E
  |rs=>exact hr.atF .rs E|rm=>exact hr.atF .rm E
  |ep X=>
   cases hr with
   |ep c h1 h2=>
    exact .ep c (λj s V=>XN) (λj s V=>XN)
  |ls X=>
   cases hr with
   |ls c hz O h1 h2=>
    simp[iW];rename_i z l m b o cap;have:=Rel.ls (F:=dn F own) (own:=dI) (w:=w) (z:=z) (l:=l.map (iW h n)) c (by simpa using hz) O (λj s V=>by obtain⟨x,Y,rfl⟩:=sI V;exact⟨E _ (h1 j x Y).1,(h1 j x Y).2⟩) (λj s V=>XN);grind
  |agg X=>cases hr with|agg O h1=>exact .agg XN λj s V=>XN
  |tup X=>cases hr with|tup O h1=>exact .tup XN λj s V=>XN
  |fn X hq'=>cases hr with|fn O h0' h1 h2=>exact .fn XN XN (λj s V=>XN) λj s V=>XN
def cnt (n:Nat):List SV->Nat
 | [] =>0|x::r=>(a6 n x).length+cnt n r
def Bh (F:Nat->Prop)(own:Own)(w:World):Nat->Nat->SV->Value->Prop
 |_,b,.nw _ _,v=>∃ hd,own b=some hd/\v=hd.v/\rR v=true|_,b,.nm _ _ _,v=>∃ hd,own b=some hd/\v=hd.v/\rR v=true|_,b,.ng _ _,v=>∃ hd,own b=some hd/\v=hd.v/\rR v=true|n+1,b,.agg l,v=>∃ vs,v=.agg vs/\vs.size=l.length/\∀ (j:Nat) (s:SV),l[j]? =some s->Bh F own w n (b+cnt n (l.take j)) s (vs.getD j undef)|n+1,b,.tup l,v=>∃ vs,v=.tuple vs/\vs.size=l.length/\∀ (j:Nat) (s:SV),l[j]? =some s->Bh F own w n (b+cnt n (l.take j)) s (vs.getD j undef)|_,_,s,v=>Rel (dn F own) dI w s v
theorem BD (f:Nat->SV->SV)(n:Nat):∀ (l:List SV) (b j:Nat) (s:SV),(vb f (λs=>(a6 n s).length) b l)[j]? =some s->∃ x,l[j]? =some x/\s=f (b+cnt n (l.take j)) x
 | [],b,j,s,h=>by simp[vb]at h
 |x::r,b,0,s,h=>by grind [vb,cnt]
 |x::r,b,j+1,s,h=>by
  have⟨y,h1,h2⟩:=BD f n r _ j s h;grind [cnt]
theorem BE (f:Nat->SV->SV)(c:SV->Nat):∀ (l:List SV) (b:Nat),(vb f c b l).length=l.length
 | [],b=>rfl
 |x::r,b=>by simp[vb,BE f c r]
theorem LW:∀ (n:Nat) (s:SV) (v:Value),jQ n s=true->(∀ k l,s≠ .nw k l)->(∀ k k2 l,s≠ .nm k k2 l)->(∀ k l,s≠ .ng k l)->(∀ l,s≠ .agg l)->(∀ l,s≠ .tup l)->Rel F own w s v->Rel F' l5 w' s v:=by
 intro n s v h W V O X E hr;cases s with
 |v x=>cases hr;exact .v _|nw k l=>grind|nm k k2 l=>grind|ng k l=>grind|agg l=>grind|tup l=>grind|_=>cases n <;>simp[jQ]at h
theorem HH {X1:Own}{m:Nat}(O:∀ id hd,l5 id=some hd->X1 (id+m)=some hd):∀ (n b:Nat) (s:SV) (v:Value),Bh F l5 w n b s v->
  ((∀ c,¬dn (dn F l5) dI c->¬dn F' X1 c)\/jQ n s=true)->Rel F' X1 w (jN n (b+m) s) v:=by
 intro n;induction n with
 |zero=>
  intro b s v h hc;cases s with
  |nw k l=>obtain⟨hd,h1,rfl,E⟩:=h;exact .os (O _ _ h1) E
  |nm k k2 l=>obtain⟨hd,h1,rfl,E⟩:=h;exact .os (O _ _ h1) E
  |ng k l=>obtain⟨hd,h1,rfl,E⟩:=h;exact .os (O _ _ h1) E
  |agg l=>
   have hr:Rel (dn F l5) dI w (.agg l) v:=h;rcases hc with hc|hc;exact hr.atF (rU hr) hc;simp[jQ]at hc
  |tup l=>
   have hr:Rel (dn F l5) dI w (.tup l) v:=h;rcases hc with hc|hc;exact hr.atF (rU hr) hc;simp[jQ]at hc
  |_=>
   have hr:Rel (dn F l5) dI w _ v:=h;rcases hc with hc|hc;exact hr.atF (rU hr) hc;exact LW _ _ _ hc (by intros;intro e;cases e) (by intros;intro e;cases e) (by intros;intro e;cases e) (by intros;intro e;cases e) (by intros;intro e;cases e) hr
 |succ n X=>
  intro b s v h hc;cases s with
  |nw k l=>obtain⟨hd,h1,rfl,E⟩:=h;exact .os (O _ _ h1) E
  |nm k k2 l=>obtain⟨hd,h1,rfl,E⟩:=h;exact .os (O _ _ h1) E
  |ng k l=>obtain⟨hd,h1,rfl,E⟩:=h;exact .os (O _ _ h1) E
  |agg l=>
   obtain⟨vs,rfl,h1,h2⟩:=h;refine .agg (by grind [BE]) λj s V=>?_;obtain⟨x,W,rfl⟩:=BD _ n l _ j s V;grind [jQ]
  |tup l=>
   obtain⟨vs,rfl,h1,h2⟩:=h;refine .tup (by grind [BE]) λj s V=>?_;obtain⟨x,W,rfl⟩:=BD _ n l _ j s V;grind [jQ]
  |_=>
   have hr:Rel (dn F l5) dI w _ v:=h;rcases hc with hc|hc;exact hr.atF (rU hr) hc;exact LW _ _ _ hc (by intros;intro e;cases e) (by intros;intro e;cases e) (by intros;intro e;cases e) (by intros;intro e;cases e) (by intros;intro e;cases e) hr
theorem HI:∀ (n:Nat) {s:SV} {v:Value},Rel F own w s v->a6 n s=[]
 |0,s,v,h=>by cases h <;>rfl
 |n+1,s,v,h=>by
  cases h <;>first|rfl|skip
  rename_i l vs O h1;simp[a6,asJ];intro x E;have⟨j,hj⟩:=aqX E;exact HI n (h1 j x hj);rename_i l vs O h1;simp[a6,asJ];intro x E;have⟨j,hj⟩:=aqX E;exact HI n (h1 j x hj)
theorem Yw:∀ (n b:Nat) {s:SV} {v:Value},Rel F dI w s v->Bh F dI w n b s v:=by
 have W:∀ c,¬dn F dI c->¬dn (dn F dI) dI c:=λc hc=>p9 hc;intro n;induction n with
 |zero=>intro b s v h;have:=h.atF (rU h) W;cases s <;>first|exact this|cases h
 |succ n V=>
  intro b s v h;have:=h.atF (rU h) W;cases s with
  |agg l=>cases h with|agg E h1=>exact⟨_,rfl,E,λj s O=>V _ (h1 j s O)⟩
  |tup l=>cases h with|tup E h1=>exact⟨_,rfl,E,λj s O=>V _ (h1 j s O)⟩
  |nw=>cases h|nm=>cases h|ng=>cases h|gd=>cases h|_=>exact this
end
def an:Con->Prop
 | .det p _=>p| .rel _ p _ _=>p| .may _ _ _=>True
def et:Con->SV->Prop
 | .det _ s,s'=>s'=s| .rel _ _ post out,s'=>∃ r,post r/\s'=out r| .may ok s _,s'=>ok=true/\s'=s
def lA:Con->Value->Prop
 | .may ok _ x,x'=>ok=false/\x'=x|_,_=>False
section
variable {P:Program}{F F':Nat->Prop}{own l5:Own}{w w':World}{ts:Tis}
structure Handed (F:Nat->Prop)(w:World)(l5:Own)(w':World)(s:SV)(u:Value):Prop where
 hp:Hp F l5 w' (a6 3 s)
 val:Bh F l5 w' 3 0 s u
 fresh:∀ (id:Nat) (hd:Hd) (b:Nat),l5 id=some hd->b∈hd.bs->w.heap.size<=b
structure P0 (P:Program)(f:FuncId)(C:FI):Prop where
 enter:∀ l c,C l=some c->∀ (args:Array Value) (w:World),(callFunc f args).run P w=.ok (.enter f args) w
 calls:∀ l c,C l=some c->an c->∀ (F:Nat->Prop) (w:World) (vs:Array Value),(∀ b,F b->b<w.heap.size)->atP F dI w l vs->
  Calls P f vs w (λe w'=>(∃ s u l5,et c s/\e=.returned u/\Handed F w l5 w' s u/\Below w.heap.size w w')\/(∃ x,lA c x/\e=.panicked [{ v:=x,recovered:=false}]/\Below w.heap.size w w'))
def NC (F:Nat->Prop)(w:World)(own:Own)(n:Nat)(e:Ending)(l5:Own)(w':World):Rs->Prop
 | .ret s h=>(∃ u,e=.returned u/\Rel F l5 w' s u)/\Hp F l5 w' h/\Fr { w:=w,own:=own} l5 w'/\n<=h.length| .pan x h=>e=.panicked [{ v:=x,recovered:=false}]/\Hp F l5 w' h/\Fr { w:=w,own:=own} l5 w'/\n<=h.length
structure atA (P:Program)(f:FuncId)(C:List SV->List Ob->Option atB):Prop where
 enter:∀ l h c,C l h=some c->∀ (args:Array Value) (w:World),(callFunc f args).run P w=.ok (.enter f args) w
 calls:∀ l h c,C l h=some c->c.pre->∀ (F:Nat->Prop) (own:Own) (w:World) (vs:Array Value),Hp F own w h->atP F own w l vs->
  Calls P f vs w (λe w'=>∃ r l5,c.post r/\NC F w own h.length e l5 w' (c.res r))
abbrev rd (r:Option Nat):Fence:= { fn:=λ_=>True,depth:=none,alive:=false,round:=r}
def aef (P:Program)(v:Value)(vs:Array Value)(w:World)(R:Ending->World->Prop):Prop:=
 (∃ f args,(Wt v vs).run P w=.ok (.enter f args) w/\Calls P f args w R)\/(∃ l f tmps as bd,(Wt v vs).run P w=.ok (.round l f tmps as bd) w/\RoundIn (rd none) 0 P l f tmps as bd w R)
structure YFr (bs bs':List Nat)(w w':World):Prop where
 os:w'.os=w.os
 tape:w'.tape=w.tape
 output:w'.output=w.output
 size:w.heap.size<=w'.heap.size
 block:∀ b,b<w.heap.size->b ∉ bs->w'.heap[b]? =w.heap[b]?
 bs:∀ b∈bs',b<w'.heap.size/\(b∈bs\/w.heap.size<=b)
def YOk (P:Program)(C:List SV->Res->Option auL):Prop:=
 ∀ l r c,C l r=some c->c.pre->∀ (F:Nat->Prop) (bs:List Nat) (w:World) (vs:Array Value),r.R F bs w->(∀ b,F b->b<w.heap.size)->(∀ b∈bs,b<w.heap.size/\¬F b)->atP (λb=>F b\/b∈bs) dI w l vs->
  aef P r.yv vs w (λe w'=>∃ a bs',c.post a/\e=.returned (.bool (c.res a).1)/\(c.res a).2.R F bs' w'/\(c.res a).2.yv=r.yv/\YFr bs bs' w w')
structure atj (P:Program)(G:Cons):Prop where
 p:∀ f,P0 P f (G.p f)
 o:∀ f,atA P f (G.o f)
 y:YOk P G.y
variable {r:Option Nat}{n:Nat}{f:FuncId}{R:Ending->World->Prop}
def oK{P:Program}{a:Array Value}{w:World}(h:Calls P f a w R):CallsIn (rd r) n P f a w R:=(callsIn_wide (n:=n)).2 h
def vo{P:Program}{a:Array Value}{w:World}(h:CallsIn (rd none) n P f a w R):Calls P f a w R:=(callsIn_wide (n:=n)).1 h
theorem Qc{P:Program}{l:Nat}{tmps:Array Value}{E O:Code}{w:World}(h:RoundIn (rd none) 0 P l f tmps E O w R):RoundIn (rd r) n P l f tmps E O w R:=
 ⟨trivial,λc cs hr=>h.2 c cs (by simp[Fence.room])⟩
variable {k:Tag}{x:k.T}{j:Nat}
theorem ND(E:att k=0){s:SV}(h:(cellsOf k x)[j]? =some s):∃ y,s=.v y:=by
 grind [zw]
theorem LX(O:att k=0){v:Value}(h:Rel F own w (svT k x) v):Rel F' l5 w' (svT k x) v:=by
 unfold svT at h |-;cases E:qx k with
 |true=>
  rw[E]at h;obtain⟨vs,rfl,h1⟩:=wp h;exact .agg h1.1 λj s V=>by
   obtain⟨y,rfl⟩:=ND O V;have:=cV (h1.2 j _ V);rw[this];exact .v y
 |false=>
  rw[E]at h;simp[gW]at h |-;cases hc:(cellsOf k x)[0]? with
  |none=>exact .any _
  |some s=>
   rw[hc]at h;obtain⟨y,rfl⟩:=ND O hc;have:=cV h;rw[this];exact .v y
variable {l:List k.T}
theorem atT.atF{o:Nat}{cs:Array Value}(h:atT F own w k l o cs)(hc:(∀ b,¬dn F own b->¬dn F' l5 b)\/att k=0):atT F' l5 w k l o cs:=λi x hi j s E=>by
 have⟨u,h1,h2⟩:=h i x hi j s E;refine⟨u,h1,?_⟩;rcases hc with hc|hk;exact h2.atF (vn E) hc;obtain⟨y,rfl⟩:=ND hk E;have:=cV h2;rw[this];exact .v y
theorem atJ.atF{v:Value}{bs:List Nat}(h:atJ F own w k l v bs)(hc:(∀ b,¬dn F own b->¬dn F' l5 b)\/att k=0):atJ F' l5 w k l v bs:=by
 rcases h with h| ⟨b,o,cap,cs,ty,h1,h2,X,O,W,E,V⟩;exact .inl h;exact .inr ⟨b,o,cap,cs,ty,h1,h2,X,O,W,E,V.atF hc⟩
theorem atK.atF(hc:(∀ b,¬dn F own b->¬dn F' l5 b)\/att k=0):∀ {l:List (List k.T)} {vs:List Value} {bs:List Nat},atK F own w k l vs bs->atK F' l5 w k l vs bs
 | [],[],bs,h=>h|l::X,v::vs,bs,⟨V,E,h1,O,h2,W⟩ =>⟨V,E,h1,O,h2.atF hc,W.atF hc⟩| [],_::_,_,h=>h.elim|_::_,[],_,h=>h.elim
def Plain (o:Ob):Prop:=(∃ (k:Tag) (l:List k.T),o=.row k l)\/(∃ (k k2:Tag) (l:List (k.T×k2.T)),o=.mp k k2 l none)\/∃ (k:Tag) (l:List (List k.T)),o=.atH k l
def aeg (o:Ob):Prop:=match o with
 | .row k _=>att k=0| .mp k k2 _ _=>att k=0/\att k2=0| .atH k _=>att k=0|_=>False
theorem atY.atF {hd:Hd}{o:Ob}(Y:Plain o)(h:atY F own w hd o)(hc:(∀ b,¬dn F own b->¬dn F' l5 b)\/aeg o):atY F' l5 w hd o:=by
 rcases Y with⟨k,l,rfl⟩ | ⟨k,k2,l,rfl⟩ | ⟨k,l,rfl⟩;exact atJ.atF h hc;have⟨b,es,clk,h1,h2,V,E,O,W⟩:=h;refine⟨b,es,clk,h1,h2,V,⟨E.1,λi x hi=>?_⟩,O,trivial⟩;have⟨e,e1,e2,e3,e4⟩:=E.2 i x hi;refine⟨e,e1,e2,?_,?_⟩;rcases hc with hc|hk;exact e3.atF (wN _ _) hc;exact LX hk.1 e3;rcases hc with hc|hk;exact e4.atF (wN _ _) hc;exact LX hk.2 e4;rcases h with h| ⟨b,o,cap,cs,ty,bs,h1,h2,V,E,O,W,X,h8,h9⟩;exact .inl h;exact .inr ⟨b,o,cap,cs,ty,bs,h1,h2,V,E,O,W,X,h8,h9.atF hc⟩
theorem BF:∀ (n:Nat) (s:SV) (o:Ob),o∈a6 n s->Plain o/\(jQ n s=true->aeg o):=by
 intro n;induction n with
 |zero=>
  intro s o h;cases s <;>simp[a6]at h <;>subst h;exact⟨.inl ⟨_,_,rfl⟩,λE=>ap_ E⟩;exact⟨.inr (.inl ⟨_,_,_,rfl⟩),λE=>by simp only[jQ,ap9]at E;exact⟨ap_ E.1,ap_ E.2⟩⟩;exact⟨.inr (.inr ⟨_,_,rfl⟩),λE=>ap_ E⟩
 |succ n O=>
  intro s o h;cases s with
  |nw k l=>simp[a6]at h;subst h;exact⟨.inl ⟨_,_,rfl⟩,λE=>ap_ E⟩
  |nm k k2 l=>simp[a6]at h;subst h;exact⟨.inr (.inl ⟨_,_,_,rfl⟩),λE=>by simp only[jQ,ap9]at E;exact⟨ap_ E.1,ap_ E.2⟩⟩
  |ng k l=>simp[a6]at h;subst h;exact⟨.inr (.inr ⟨_,_,rfl⟩),λE=>ap_ E⟩
  |agg l=>
   grind [a6,jQ]
  |tup l=>
   grind [a6,jQ]
  |_=>simp[a6]at h
variable {h:List Ob}
theorem Qd{id:Nat}(hd:dT (aq h id)=false):aq h id∈h:=by
 grind [xW,dT]
theorem uQ {α:Type}:∀ {l:List α} {i j:Nat} {x:α},l.Nodup->l[i]? =some x->l[j]? =some x->i=j
 | [],i,j,x,_,h,_=>by simp at h
 |a::r,0,0,x,_,_,_=>rfl
 |a::r,0,j+1,x,hn,h1,h2=>by
  grind
 |a::r,i+1,0,x,hn,h1,h2=>by
  grind
 |a::r,i+1,j+1,x,hn,h1,h2=>by
  rw[aqQ]at hn;rw[uQ hn.2 h1 h2]
theorem LY(hp:Hp F own w h){s:SV}{u:Value}{F1:Nat->Prop}(hF1:(∀ b,F1 b↔dn F own b)\/((∀ b,F1 b↔F b)/\jQ 3 s=true))(hb:Below w.heap.size w w')(Y:Handed F1 w l5 w' s u):
  ∃ X1,Hp F X1 w' (h++a6 3 s)/\Fr { w:=w,own:=own} X1 w'/\Rel F X1 w' (jN 3 h.length s) u/\∀ id,id<h.length->X1 id=own id:=by
 have hFF:∀ b,F b->F1 b:=λb hf=>by
  rcases hF1 with h1| ⟨h1,_⟩;exact(h1 b).2 (.inl hf);exact(h1 b).2 hf
 let X1:Own:=λid=>if id<h.length then own id else l5 (id - h.length)
 have o1:∀ id hd,X1 id=some hd->(id<h.length/\own id=some hd)\/(h.length<=id/\l5 (id - h.length)=some hd):=λid hd e=>by
  simp[X1]at e;split at e
  rename_i hlt;exact .inl ⟨hlt,e⟩;exact .inr ⟨XM,e⟩
 have o2:∀ id hd,own id=some hd->X1 id=some hd:=λid hd e=>by
  simp[X1];rw[if_pos (hp.dom id hd e)];exact e
 have o3:∀ id hd,l5 id=some hd->X1 (id+h.length)=some hd:=λid hd e=>by
  simp only[X1];rw[if_neg XM,as8];exact e
 have fr:Fr { w:=w,own:=own} X1 w':=Fr.auk (λid hd e=>⟨hd,o2 id hd e,.refl _⟩) (λid hd b e E=>by
   rcases o1 id hd e with⟨_,e⟩ | ⟨_,e⟩;exact .inl ⟨id,hd,e,E⟩;exact .inr (Y.fresh _ hd b e E)) (λb hbl _=>hb.block b hbl) hb.size hb.os hb.tape hb.output
 have g:at4 F own w X1 w':=fr.aub;have X:(∀ b,¬dn F1 l5 b->¬dn F X1 b)\/jQ 3 s=true:=by
  rcases hF1 with h1| ⟨_,h2⟩;left;rintro b hn (hf| ⟨id,hd,e,E⟩);exact hn (.inl (hFF b hf));rcases o1 id hd e with⟨_,e⟩ | ⟨_,e⟩;exact hn (.inl ((h1 b).2 (.inr ⟨id,hd,e,E⟩)));exact hn (.inr ⟨_,hd,e,E⟩);exact .inr h2
 refine⟨X1,⟨λid hd e=>?_,λb hf=>aqi (hp.atu b hf) hb.size,λid hd b e E=>?_,λi j hi hj b V W hb1 hb2=>?_,λid hd b e E=>?_,λid O=>?_⟩,fr,?_,λid hlt=>by simp only[X1];rw[if_pos hlt]⟩;rcases o1 id hd e with⟨hlt,_⟩ | ⟨hge,e⟩;rw[aqk];omega;have:=Y.hp.dom _ hd e;rw[aqk];omega;rcases o1 id hd e with⟨_,e⟩ | ⟨_,e⟩;exact hp.apart id hd b e E;exact λhf=>Y.hp.apart _ hd b e E (hFF b hf);rcases o1 i hi V with⟨l1,V⟩ | ⟨l1,V⟩ <;>rcases o1 j hj W with⟨l2,W⟩ | ⟨l2,W⟩;exact hp.inj i j hi hj b V W hb1 hb2;have:=hp.lt i hi b V hb1;have:=Y.fresh _ hj b W hb2;omega;have:=hp.lt j hj b W hb2;have:=Y.fresh _ hi b V hb1;omega;have:=Y.hp.inj _ _ hi hj b V W hb1 hb2;omega;rcases o1 id hd e with⟨_,e⟩ | ⟨_,e⟩;exact aqi (hp.lt id hd b e E) hb.size;exact Y.hp.lt _ hd b e E;rw[vg]at O |-;by_cases hlt:id<h.length
 rw[if_pos hlt]at O |-;have⟨hd,V,W⟩:=hp.obs id O;exact⟨hd,o2 id hd V,W.carry g.at7 hb.size λb E=>hb.block b (hp.lt id hd b V E)⟩;rw[if_neg hlt]at O |-;have⟨hd,V,W⟩:=Y.hp.obs _ O;have⟨q1,q2⟩:=BF 3 s _ (Qd O);have e3:=o3 _ hd V;rw[Nat.sub_add_cancel XM]at e3;exact⟨hd,e3,W.atF q1 (X.imp (λh=>h) q2)⟩;have:=HH (F':=F) (X1:=X1) (m:=h.length) o3 3 0 s u Y.val (X.imp (λhk c hc=>hk c λho=>hc (.inl ho)) id)
 rwa[aqu]at this
variable {G:Cons}
theorem GF(hG:atj P G)(O:Hp F own w h){args:List SV}{vs:Array Value}(hr:atP F own w args vs){c:Con}(hc:G.p f (args.map (iW h 6))=some c)(E:an c)
  (V:args.all (dC 3)=true\/∀ s,et c s->jQ 3 s=true):
  (callFunc f vs).run P w=.ok (.enter f vs) w/\Calls P f vs w (λe w'=>(∃ s u X1,et c s/\e=.returned u/\Hp F X1 w' (h++a6 3 s)/\Fr { w:=w,own:=own} X1 w'/\Rel F X1 w' (jN 3 h.length s) u/\Below w.heap.size w w'/\∀ id,id<h.length->X1 id=own id)\/(∃ x,lA c x/\e=.panicked [{ v:=x,recovered:=false}]/\Below w.heap.size w w')):=by
 refine⟨(hG.p f).enter _ c hc vs w,?_⟩;rcases V with X|hsc;have hpf:∀ (j:Nat) (s:SV),args[j]? =some s->PF s:=λj s W=>by
  rw[aqU]at X;exact im 3 s (X s (aql W))
 refine((hG.p f).calls _ c hc E (dn F own) w vs (λb hb=>?_) ⟨by simpa using hr.1,λj s W=>?_⟩).mono ?_;rcases hb with hf| ⟨id,hd,e,hbb⟩;exact O.atu b hf;exact O.lt id hd b e hbb;obtain⟨x,Y,rfl⟩:=sI W;exact Yv 6 x _ (hpf j x Y) (hr.2 j x Y);rintro e w' (⟨s,u,l5,h1,h2,h3,h4⟩ |hp');have⟨X1,q1,q2,q3,q4⟩:=LY O (.inl λb=>atn) h4 h3;grind
 grind
 refine((hG.p f).calls _ c hc E F w vs O.atu ⟨by simpa using hr.1,λj s W=>?_⟩).mono ?_;obtain⟨x,Y,rfl⟩:=sI W;exact CF O 6 x _ (hr.2 j x Y);rintro e w' (⟨s,u,l5,h1,h2,h3,h4⟩ |hp');have⟨X1,q1,q2,q3,q4⟩:=LY O (.inr ⟨λb=>atn,hsc s h1⟩) h4 h3;grind
 grind
theorem rV:∀ (ids:List Nat) (id k:Nat),Bz id ids=some k->ids[k]? =some id
 | [],id,k,h=>by simp[Bz]at h
 |a::r,id,k,h=>by
  simp[Bz]at h;cases O:Nat.beq a id with
  |true=>simp_all <;>grind
  |false=>
   rw[O]at h;cases E:Bz id r with
   |none=>grind|some j=>rw[E]at h;simp at h;subst h;simpa using rV r id j E
theorem zC (n:Nat):∀ l:List Nat,FN n l=true↔n∈l
 | [] =>by simp[FN]
 |m::r=>by
  simp[FN];cases E:Nat.beq m n with
  |true=>simp_all
  |false=>
   have:m≠n:=λe=>by simp_all
   simp[cond_false,zC n r];grind
theorem tE (h:List Ob):∀ (n:Nat) (O E:List Nat),E.Nodup->(reach h n O E).Nodup
 |0,_,E,hn=>hn|n+1,[],E,hn=>hn
 |n+1,id::O,E,hn=>by
  simp[reach];cases X:FN id E with
  |true=>exact tE h n _ _ hn
  |false=>
   refine tE h n _ _ ?_;rw[art];refine⟨hn,by simp,λa V b W=>?_⟩;have:=(zC a E).2 V;grind
structure Rn (m:Nat->Option Nat)(own l5:Own):Prop where
 ids:∀ i j hd,m i=some j->own i=some hd->∃ hd',l5 j=some hd'/\hd.like hd'
variable {m:Nat->Option Nat}
theorem GG(hm:Rn m own l5)(ho:∀ b,¬dn F own b->¬dn F' l5 b):∀ (n:Nat) (s:SV) (v:Value),Rel F own w s v->Rel F' l5 w (ren m n s) v:=by
 have base:∀ (n:Nat) (s:SV) (v:Value),Rel F own w s v->(∀ l o,s≠ .ep l o)->(∀ z l,s≠ .ls z l)->(∀ l,s≠ .agg l)->(∀ l,s≠ .tup l)->(∀ f l m,s≠ .fn f l m)->Rel F' l5 w (ren m n s) v:=by
  intro n s v hr n1 n2 n3 n4 n5;have hid:∀ {id:Nat} {hd:Hd} {f:Nat->SV} {v:Value},own id=some hd->(∀ j hd',l5 j=some hd'->hd.like hd'->Rel F' l5 w (f j) v)->Rel F' l5 w (Cp f (m id)) v:=by
   intro id hd f v h1 h2;cases hm':m id with
   |none=>exact .any _
   |some j=>
    have⟨hd',O,E⟩:=hm.ids id j hd hm' h1;exact h2 j hd' O E
  cases hr with
  |any=>cases n <;>exact .any _|v x=>cases n <;>exact .v _
  |ptr h1 h2=>cases n <;>exact hid h1 λj hd' O E=>.ptr O (E.1.trans h2)
  |os h1 h2=>cases n <;>exact hid h1 λj hd' O E=>by rw[<-E.2.1]at h2 |-;exact .os O h2
  |e0=>cases n <;>exact .e0|rc V=>cases n <;>exact .rc (V.atF .rs ho)
  |rp h1 h2 W=>cases n <;>exact hid h1 λj hd' O E=>.rp O (E.2.1.trans h2) W
  |gr h1 h2 W=>cases n <;>exact hid h1 λj hd' O E=>.gr O (by rw[E.2.2];exact h2) W
  |vw h1 h2 W=>cases n <;>exact hid h1 λj hd' O E=>.vw O (by rw[E.2.1];exact h2) W
  |gp h1 h2 W=>cases n <;>exact hid h1 λj hd' O E=>.gp O (by rw[E.2.2];exact h2) W
  |ep=>grind|rs c V Y h1 h2=>cases n <;>exact Rel.atF (.rs c V Y h1 h2) .rs ho|rs0=>cases n <;>exact .rs0|ls=>grind|rm ck cv es clock V h1 h2 W h4 h5=>cases n <;>exact Rel.atF (.rm ck cv es clock V h1 h2 W h4 h5) .rm ho|rm0=>cases n <;>exact .rm0|agg=>grind|tup=>grind|fn=>grind
 intro n;induction n with
 |zero=>
  intro s v hr;cases s <;>first|exact .any _|(refine base 0 _ _ hr ?_ ?_ ?_ ?_ ?_ <;>intros <;>(intro e;cases e)) |cases hr
 |succ n ih=>
  intro s v hr;cases s with
  |ep l o=>
   cases hr with
   |ep c h1 h2=>
    exact .ep c (λj s X=>XN) (λj s X=>XN)
  |ls z l=>
   cases hr with
   |ls c hz V h1 h2=>
    simp[ren];have:=Rel.ls (F:=F') (own:=l5) (w:=w) (z:=z) (l:=l.map (ren m n)) c (by simpa using hz) V (λj s X=>by obtain⟨x,hx,rfl⟩:=sI X;exact⟨ho _ (h1 j x hx).1,(h1 j x hx).2⟩) (λj s X=>XN);grind
  |agg l=>cases hr with|agg V h1=>exact .agg XN λj s X=>XN
  |tup l=>cases hr with|tup V h1=>exact .tup XN λj s X=>XN
  |fn f l l2=>cases hr with|fn V Y h1 h2=>exact .fn XN XN (λj s X=>XN) λj s X=>XN
  |_=>first|(refine base (n+1) _ _ hr ?_ ?_ ?_ ?_ ?_ <;>intros <;>(intro e;cases e)) |cases hr
theorem HJ(hm:Rn m own l5)(ho:∀ b,¬dn F own b->¬dn F' l5 b)(ho2:∀ b,b<w.heap.size->dn F' l5 b->dn F own b){hd:Hd}{o:Ob}(h:atY F own w hd o):atY F' l5 w hd (xT m o):=by
 cases o with
 |cells l=>have⟨b,cs,ty,h1,h2,O,h4,h5⟩:=h;exact⟨b,cs,ty,h1,h2,O,XN,λj s V=>by grind [GG]⟩
 |dead=>trivial|row k l=>exact atJ.atF h (.inl ho)
 |mp kk vk l W=>
  have⟨b,es,clk,h1,h2,O,h4,h5,X⟩:=h;have E:aum F' l5 w kk vk (fB kk vk l W) es:=⟨h4.1,λi x hi=>by
   have⟨e,e1,e2,e3,e4⟩:=h4.2 i x hi;exact⟨e,e1,e2,e3.atF (wN _ _) ho,e4.atF (wN _ _) ho⟩⟩
  match W,E,X with
  |none,E,_=>exact⟨b,es,clk,h1,h2,O,E,h5,trivial⟩
  |some (i,none),E,X=>
   show atY F' l5 w hd (V9 kk vk l none (m i));cases Y:m i with
   |none=>exact⟨b,es,clk,h1,h2,O,E,h5,trivial⟩
   |some k=>
    have⟨hd2,t1,t2⟩:=X;have⟨hd3,e1,e2⟩:=hm.ids i k hd2 Y t1;exact⟨b,es,clk,h1,h2,O,E,h5,hd3,e1,e2.2.2.trans t2⟩
  |some (i,some x),E,X=>
   show atY F' l5 w hd (V9 kk vk l (some x) (m i));cases Y:m i with
   |none=>exact λj V=>by cases V
   |some k=>
    have⟨hd2,e,t1,t2,t3⟩:=X;have⟨hd3,e1,e2⟩:=hm.ids i k hd2 Y t1;exact⟨b,es,clk,h1,h2,O,E,h5,hd3,e,e1,t2,e2.2.1.trans t3⟩
 |atH k l=>
  rcases h with h| ⟨b,o,cap,cs,ty,bs,h1,h2,O,h4,h5,X,h7,h8,h9⟩;exact .inl h;exact .inr ⟨b,o,cap,cs,ty,bs,h1,h2,O,h4,h5,X,h7,h8,h9.atF (.inl ho)⟩
 |ab r=>
  refine⟨h.1,r.loc _ _ _ w w h.2 (aqb _) (λb hbl hn=>rfl) (λb hbl hn=>⟨ho2 b hbl hn.1,hn.2⟩)⟩
 |raw o=>exact h
 |mi mid n left cur=>
  have⟨b,h1,h2,O⟩:=h;refine⟨b,h1,h2,λj V=>?_⟩;cases mid with
  |none=>cases V
  |some i=>
   have⟨hdm,bm,seen,c0,ss,k1,k2,k3,k4⟩:=O i rfl;have⟨hd',e1,e2⟩:=hm.ids i j hdm V k1;exact⟨hd',bm,seen,c0,ss,e1,e2.2.1.trans k2,k3,k4⟩
 |fwd n=>
  cases n with
  |none=>intro j V;cases V
  |some i=>
   intro j V;have⟨hd2,k1,k2,k3⟩:=h i rfl;have⟨hd',e1,e2⟩:=hm.ids i j hd2 V k1;exact⟨hd',e1,e2.2.1.trans k2,k3⟩
 |fz k l=>exact Rel.atF h .rs ho
theorem x8 (m:Nat->Option Nat)(o:Ob):dT (xT m o)=dT o:=by
 cases o with
 |mp kk E l p=>
  match p with
  |none=>rfl
  |some (i,q) =>
   show dT (V9 kk E l q (m i))=false;cases q <;>cases m i <;>rfl
 |_=>rfl
theorem acs(Y:Hp F own w h)(ids:List Nat)(hn:ids.Nodup):
  ∃ (Fm:Nat->Prop) (V:Own),Hp Fm V w (wM h ids)/\(∀ b,dn Fm V b↔dn F own b)/\Rn (inN ids) own V/\(∀ b,Fm b↔(F b\/∃ id hd,id ∉ ids/\own id=some hd/\b∈hd.bs))/\(∀ k id,ids[k]? =some id->V k=own id)/\(∀ k,ids.length<=k->V k=none):=by
 let V:Own:=λk=>match ids[k]? with|some id=>own id|none=>none
 let Fm:Nat->Prop:=λb=>F b\/∃ id hd,id ∉ ids/\own id=some hd/\b∈hd.bs
 have o1:∀ k id,ids[k]? =some id->V k=own id:=λk id e=>XN
 have o2:∀ k,ids.length<=k->V k=none:=λk e=>XN
 have o3:∀ k hd,V k=some hd->∃ id,ids[k]? =some id/\own id=some hd:=λk hd e=>by
  grind
 have inj:∀ i j id,ids[i]? =some id->ids[j]? =some id->i=j:=λi j id X O=>uQ hn X O;have hB:∀ b,dn Fm V b↔dn F own b:=λb=>by
  constructor
  rintro ((W| ⟨id,hd,_,e,E⟩) | ⟨k,hd,e,E⟩);exact .inl W;exact .inr ⟨id,hd,e,E⟩;have⟨id,_,O⟩:=o3 k hd e;exact .inr ⟨id,hd,O,E⟩;rintro (W| ⟨id,hd,e,E⟩);exact .inl (.inl W);by_cases hm:id∈ids
  have⟨k,hk⟩:=aqX hm;exact .inr ⟨k,hd,XN,E⟩;exact .inl (.inr ⟨id,hd,hm,e,E⟩)
 have rn:Rn (inN ids) own V:=⟨λi j hd hm e=>⟨hd,by rw[o1 j i (rV ids i j hm)];exact e,.refl _⟩⟩;refine⟨Fm,V,⟨λk hd e=>?_,λb W=>?_,λk hd b e E=>?_,λi j hi hj b X O hb1 hb2=>?_,λk hd b e E=>?_,λk hdd=>?_⟩,hB,rn,λb=>atn,o1,o2⟩;grind [wM]
 rcases W with W| ⟨id,hd,_,e,E⟩;exact Y.atu b W;exact Y.lt id hd b e E;have⟨id,X,O⟩:=o3 k hd e;rintro (W| ⟨id',hd',hn',e',hbb'⟩);exact Y.apart id hd b O E W;exact hn' (Y.inj id' id hd' hd b e' O hbb' E▸aql X);have⟨id1,q1,q2⟩:=o3 i hi X;have⟨id2,q3,q4⟩:=o3 j hj O;have:=Y.inj id1 id2 hi hj b q2 q4 hb1 hb2;grind
 have⟨id,X,O⟩:=o3 k hd e;exact Y.lt id hd b O E;have hk:∃ id,ids[k]? =some id/\aq (wM h ids) k=xT (inN ids) (aq h id):=by
  grind [xW,wM,dT]
 have⟨id,hid,ho⟩:=hk;rw[ho]at hdd |-;rw[x8]at hdd;have⟨hd,X,O⟩:=Y.obs id hdd;exact⟨hd,XN,HJ rn (λb hb hb2=>hb ((hB b).1 hb2)) (λb _ hb2=>(hB b).1 hb2) O⟩
theorem tF {ids:List Nat}{b k:Nat}(E:k<ids.length):ids[k]? =some (li ids b k):=by
 grind [li,gW]
theorem xj {ids:List Nat}{b k:Nat}(E:ids.length<=k):li ids b k=b+(k - ids.length):=by
 grind [li,gW]
theorem Yx (ids:List Nat)(b k:Nat):um ids b k=some (li ids b k):=by
 grind [um,li]
theorem Wu{ids:List Nat}(hn:ids.Nodup){b:Nat}(O:∀ id∈ids,id<b){i:Nat}(h:li ids b i=li ids b j):i=j:=by
 rcases ari i ids.length with hi|hi <;>rcases ari j ids.length with hj|hj;have E:=tF (b:=b) hi;have V:=tF (b:=b) hj;grind [uQ]
 have E:=O _ (aql (tF (b:=b) hi));grind [xj];have E:=O _ (aql (tF (b:=b) hj));grind [xj];grind [xj]
theorem HK {ids:List Nat}(hn:ids.Nodup){b:Nat}(X:∀ id∈ids,id<b):∀ (E:List Ob) (h:List Ob) (k:Nat),b<=h.length->(ids.length<=k->h.length=b+(k - ids.length))->(k<ids.length->h.length=b)->
  (∀ i,k<=i->i<k+E.length->aq (ov ids b h k E) (li ids b i)=xT (um ids b) (aq E (i - k)))/\
  (∀ id,(∀ i,k<=i->i<k+E.length->li ids b i≠id)->aq (ov ids b h k E) id=aq h id)/\h.length<=(ov ids b h k E).length/\(∀ i,k<=i->i<k+E.length->li ids b i< (ov ids b h k E).length)
 | [],h,k,_,_,_=>⟨λi h1 h2=>XN,λid _=>rfl,aqb _,λi h1 h2=>XN⟩
 |o::r,h,k,Y,hge,hlt=>by
  simp only[ov];have hstep:(cO h (li ids b k) (xT (um ids b) o)).length=(if k<ids.length then h.length else h.length+1)/\li ids b k< (cO h (li ids b k) (xT (um ids b) o)).length:=by
   rcases ari k ids.length with hk|hk;have:=X _ (aql (tF (b:=b) hk));simp_all [cJ];simp_all [cJ,xj]
  have O:b<=(cO h (li ids b k) (xT (um ids b) o)).length:=XN
  have⟨q1,q2,q3,q4⟩:=HK hn X r (cO h (li ids b k) (xT (um ids b) o)) (k+1) O (λhk=>by
    grind) (λhk=>XN)
  have W:∀ i,k+1<=i->li ids b i≠li ids b k:=λi hi e=>by grind [Wu]
  refine⟨λi h1 h2=>?_,λid hid=>?_,aqp XN q3,λi h1 h2=>?_⟩;by_cases V:i=k
  subst V;rw[q2 _ (λj hj _=>W j hj),dM,if_pos rfl,ar0];rfl;rw[q1 i XM XN,show i - k=(i - (k+1))+1 by omega];rfl;rw[q2 id (λi h1 h2=>hid i XM (by simp;omega)),dM,if_neg (hid k (aqb _) (by simp))];grind
theorem LZ(hp:Hp F own w h){ids:List Nat}(hn:ids.Nodup)(auR:∀ id∈ids,id<h.length){Fm:Nat->Prop}{om O:Own}(hpm:Hp Fm om w (wM h ids))(hB:∀ b,dn Fm om b↔dn F own b)(X:∀ b,Fm b↔(F b\/∃ id hd,id ∉ ids/\own id=some hd/\b∈hd.bs))(ho1:∀ k id,ids[k]? =some id->om k=own id)
  {h':List Ob} (W:Hp Fm O w' h') (fr:Fr { w:=w,own:=om} O w') (hlen:ids.length<=h'.length):
  ∃ X1,Hp F X1 w' (ov ids h.length h 0 h')/\Fr { w:=w,own:=own} X1 w'/\∀ s v,Rel Fm O w' s v->Rel F X1 w' (ren (um ids h.length) 3 s) v:=by
 let L:=h.length
 let X1:Own:=λid=>match Bz id ids with|some k=>O k|none=>if L<=id then O (ids.length+(id - L))else own id
 have posN_of:∀ k id,ids[k]? =some id->Bz id ids=some k:=by
  intro k id e;cases hpn:Bz id ids with
  |none=>
   have:∀ (l:List Nat),id∈l->Bz id l≠none:=by
    intro l;induction l with
    |nil=>grind
    |cons a r ih=>
     intro hm;simp[Bz];cases hb:Nat.beq a id with
     |true=>simp
     |false=>
      have:id∈r:=by
       rcases aqg.1 hm with e|e <;>simp_all
      simp_all
   grind
  |some j=>
   have Y:=rV ids id j hpn;rw[uQ hn e Y]
 have b1:∀ k,X1 (li ids L k)=O k:=by
  intro k;rcases ari k ids.length with hk|hk;have:=posN_of k _ (tF (b:=L) hk);grind
  have hge:=xj (b:=L) hk;have hnone:Bz (li ids L k) ids=none:=by
   cases hpn:Bz (li ids L k) ids with
   |none=>rfl
   |some j=>
    have:=auR _ (aql (rV ids _ j hpn));omega
  grind
 have b2:∀ id hd,X1 id=some hd->(∃ k,id=li ids L k/\O k=some hd)\/(id ∉ ids/\id<L/\own id=some hd):=by
  grind [rV,tF,xj,List.getElem?_of_mem]
 have b3:∀ id hd,id ∉ ids->own id=some hd->X1 id=some hd:=by
  intro id hd hm e;have hlt:=hp.dom id hd e;grind [rV]
 have hold:∀ b,b<w.heap.size->(¬ ∃ k hd,om k=some hd/\b∈hd.bs)->w'.heap[b]? =w.heap[b]?:=λb hb hn=>fr.block b ⟨hb,hn⟩;have omB:∀ k hd b,om k=some hd->b∈hd.bs->∃ id hd',own id=some hd'/\b∈hd'.bs:=λk hd b e E=>by
  rcases(hB b).1 (.inr ⟨k,hd,e,E⟩)with hf|ho;exact absurd ((X b).2 (.inl hf)) (hpm.apart k hd b e E);exact ho
 have fr2:Fr { w:=w,own:=own} X1 w':=by
  refine Fr.auk (λid hd e=>?_) (λid hd b e E=>?_) (λb hb V=>hold b hb λ⟨k,hd,e,E⟩ =>V (omB k hd b e E)) fr.size fr.os fr.tape fr.output;by_cases hm:id∈ids
  have⟨k,hk⟩:=aqX hm;have⟨hd',e1,Y⟩:=fr.ids k hd XN;grind
  exact⟨hd,b3 id hd hm e,.refl _⟩;rcases b2 id hd e with⟨k,hk,e⟩ | ⟨_,_,e⟩;rcases ari b w.heap.size with hlt|hge;have V:=fr.base k hd b e E;have:∃ k2 hd2,om k2=some hd2/\b∈hd2.bs:=aqH λhc=>V ⟨hlt,hc⟩;grind
  omega;grind
 have rn:Rn (um ids L) O X1:=⟨λi j hd hm e=>⟨hd,by
  grind [Yx],.refl _⟩⟩
 have k1:∀ b,¬dn Fm O b->¬dn F X1 b:=by
  rintro b V (hf| ⟨id,hd,e,E⟩);exact V (.inl ((X b).2 (.inl hf)));rcases b2 id hd e with⟨k,_,e⟩ | ⟨hm,_,e⟩;exact V (.inr ⟨k,hd,e,E⟩);exact V (.inl ((X b).2 (.inr ⟨id,hd,hm,e,E⟩)))
 have k2:∀ b,dn F X1 b->dn Fm O b:=by
  grind
 have⟨q1,q2,q3,q4⟩:=HK hn auR h' h 0 (aqb _) (λhk=>by
   omega) (λ_=>rfl)
 refine⟨X1,⟨λid hd e=>?_,λb hf=>aqi (hp.atu b hf) fr.size,λid hd b e E=>?_,λi j hi hj b e1 Y hb1 hb2=>?_,λid hd b e E=>?_,λid hdd=>?_⟩,fr2,λs v hr=>GG rn k1 3 s v hr⟩;rcases b2 id hd e with⟨k,hk,e⟩ | ⟨_,hlt,_⟩;rw[hk];exact q4 k (aqq _) (by have:=W.dom k hd e;omega);omega;rcases b2 id hd e with⟨k,_,e⟩ | ⟨_,_,e⟩;exact λhf=>W.apart k hd b e E ((X b).2 (.inl hf));exact hp.apart id hd b e E;rcases b2 i hi e1 with⟨ki,hki,e1⟩ | ⟨m1,_,e1⟩ <;>rcases b2 j hj Y with⟨kj,hkj,Y⟩ | ⟨m2,_,Y⟩;rw[hki,hkj,W.inj ki kj hi hj b e1 Y hb1 hb2];exact absurd ((X b).2 (.inr ⟨j,hj,m2,Y,hb2⟩)) (W.apart ki hi b e1 hb1);exact absurd ((X b).2 (.inr ⟨i,hi,m1,e1,hb1⟩)) (W.apart kj hj b Y hb2);exact hp.inj i j hi hj b e1 Y hb1 hb2;rcases b2 id hd e with⟨k,_,e⟩ | ⟨_,_,e⟩;exact W.lt k hd b e E;exact aqi (hp.lt id hd b e E) fr.size;by_cases hk:∃ k,k<h'.length/\li ids L k=id
 obtain⟨k,hkl,rfl⟩:=hk;rw[q1 k (aqq _) XM]at hdd |-;rw[x8]at hdd;have⟨hd,e1,Y⟩:=W.obs k hdd;exact⟨hd,XN,HJ rn k1 (λb _=>k2 b) Y⟩;have V:∀ i,0<=i->i<0+h'.length->li ids L i≠id:=λi _ hi e=>hk ⟨i,XM,e⟩;rw[q2 id V]at hdd |-;have⟨hd,e1,Y⟩:=hp.obs id hdd;have hm:id ∉ ids:=λhm=>by
  grind [List.getElem?_of_mem,tF]
 refine⟨hd,b3 id hd hm e1,Y.carry (fr2.aub (F:=F)).at7 fr.size λb E=>hold b (hp.lt id hd b e1 E) ?_⟩;rintro⟨k,hd',e',hb'⟩;exact hpm.apart k hd' b e' hb' ((X b).2 (.inr ⟨id,hd,hm,e1,E⟩))
theorem Qe(hG:atj P G)(W:Hp F own w h){args:List SV}{vs:Array Value}(hr:atP F own w args vs){ids:List Nat}(hn:ids.Nodup){c:atB}(hc:G.o f (args.map (ren (inN ids) 6)) (wM h ids)=some c)(V:c.pre)(E:∀ id∈ids,id<h.length):
  (callFunc f vs).run P w=.ok (.enter f vs) w/\Calls P f vs w (λe w'=>∃ r X1,c.post r/\match c.res r with
   | .ret s h'=>(∃ u,e=.returned u/\Rel F X1 w' (ren (um ids h.length) 3 s) u)/\Hp F X1 w' (ov ids h.length h 0 h')/\Fr { w:=w,own:=own} X1 w'
   | .pan x h'=>e=.panicked [{ v:=x,recovered:=false}]/\Hp F X1 w' (ov ids h.length h 0 h')/\Fr { w:=w,own:=own} X1 w'):=by
 refine⟨(hG.o f).enter _ _ c hc vs w,?_⟩;have⟨Fm,om,hpm,hB,rn,hFm,o1,o2⟩:=acs W ids hn;refine((hG.o f).calls _ _ c hc V Fm om w vs hpm ⟨by simpa using hr.1,λj s hj=>?_⟩).mono ?_;obtain⟨x,X,rfl⟩:=sI hj;exact GG rn (λb hb hb2=>hb ((hB b).1 hb2)) 6 x _ (hr.2 j x X);rintro e w' ⟨r,l5,h1,h2⟩;have Y:(wM h ids).length=ids.length:=by simp[wM]
 cases O:c.res r with
 |ret s h'=>
  rw[O]at h2;have⟨⟨u,q1,q2⟩,q3,q4,q5⟩:=h2;have⟨X1,k1,k2,k3⟩:=LZ W hn E hpm hB hFm o1 q3 q4 XM;exact⟨r,X1,h1,XN⟩
 |pan x h'=>
  rw[O]at h2;have⟨q1,q3,q4,q5⟩:=h2;have⟨X1,k1,k2,k3⟩:=LZ W hn E hpm hB hFm o1 q3 q4 XM;exact⟨r,X1,h1,XN⟩
theorem Qf(hG:atj P G)(E:Hp F own w h){id:Nat}{hd:Hd}(hid:own id=some hd){args:List SV}{vs:Array Value}(hr:atP F own w args vs)(hnp:args.all (dC 3)=true){r:Res}(ho:aq h id=.ab r){c:auL}(hc:G.y args r=some c)(hpre:c.pre):
  aef P hd.v vs w (λe w'=>∃ a X1,c.post a/\e=.returned (.bool (c.res a).1)/\Hp F X1 w' (cO h id (.ab (c.res a).2))/\Fr { w:=w,own:=own} X1 w'):=by
 have⟨hd',e0,hv,hR⟩:=E.at ho rfl;rw[hid]at e0;cases e0;have hlt:=E.dom id hd hid;let F1:Nat->Prop:=λb=>dn F own b/\b ∉ hd.bs
 have hF1:∀ b,F1 b->b<w.heap.size:=by
  rintro b ⟨V| ⟨id',hd',e,hbb⟩,_⟩;exact E.atu b V;exact E.lt id' hd' b e hbb
 have hy:=hG.y args r c hc hpre F1 hd.bs w vs hR hF1 (λb hb=>⟨E.lt id hd b hid hb,λV=>V.2 hb⟩) ⟨hr.1,λj s hj=>by
  rw[aqU]at hnp;refine(hr.2 j s hj).atF (im 3 s (hnp s (aql hj))) λb hb=>p9 ?_;rintro (V|hbb);exact hb V.1;exact hb (.inr ⟨id,hd,hid,hbb⟩)⟩
 rw[hv];have mono:∀ (e:Ending) (w':World),(∃ a Y,c.post a/\e=.returned (.bool (c.res a).1)/\(c.res a).2.R F1 Y w'/\(c.res a).2.yv=r.yv/\YFr hd.bs Y w w')->∃ a X1,c.post a/\e=.returned (.bool (c.res a).1)/\Hp F X1 w' (cO h id (.ab (c.res a).2))/\Fr { w:=w,own:=own} X1 w':=by
  rintro e w' ⟨a,Y,h1,h2,h3,h4,X⟩;let hd2:Hd:= { hd with bs:=Y}
  have fr:Fr { w:=w,own:=own} (own.set id hd2) w':=Fr.auk (λi hi e=>by
    by_cases hii:i=id
    subst hii;rw[hid]at e;cases e;exact⟨hd2,Own.atQ _ _ _,rfl,rfl,rfl⟩;exact⟨hi,by grind [Own.atX],.refl _⟩) (λi hi b e hbb=>by
    by_cases hii:i=id
    subst hii;rw[Own.atQ]at e;cases e;rcases(X.bs b hbb).2 with hb|hb <;>grind;grind [Own.atX]) (λb hb hn=>X.block b hb λW=>hn ⟨id,hd,hid,W⟩) X.size X.os X.tape X.output
  refine⟨a,own.set id hd2,h1,h2,E.upd fr.aub (· =id) (by rw[cJ,if_pos hlt];omega) (λi hi=>⟨Own.atX _ _ hi,by rw[dM,if_neg (λe=>hi e.symm)],λhd' b e hbb=>X.block b (E.lt i hd' b e hbb) λW=>hi (E.inj i id hd' hd b e hid hbb W)⟩) (λi hd' hi e=>?_) (λi hi _=>?_),fr⟩;subst hi;rw[Own.atQ]at e;cases e;refine⟨by simp_all [cJ],λb hb=>⟨(X.bs b hb).1,λV=>?_,λj hj hne e O=>?_⟩⟩;rcases(X.bs b hb).2 with W|hge;exact E.apart _ hd b hid W V;have:=E.atu b V;omega;rw[Own.atX _ _ hne]at e;rcases(X.bs b hb).2 with W|hge;exact hne (E.inj j _ hj hd b e hid O W);have:=E.lt j hj b e O;omega;subst hi;refine⟨hd2,Own.atQ _ _ _,?_⟩;rw[dM,if_pos rfl];refine⟨hv.trans h4.symm,(c.res a).2.loc _ _ _ w' w' h3 (aqb _) (λ_ _ _=>rfl) ?_⟩;rintro b _ ⟨V| ⟨j,hj,e,O⟩,hnb⟩;exact⟨.inl V,λW=>E.apart _ hd b hid W V⟩;by_cases hji:j=i
  grind [Own.atQ]
  rw[Own.atX _ _ hji]at e;exact⟨.inr ⟨j,hj,e,O⟩,λW=>hji (E.inj j _ hj hd b e hid O W)⟩
 rcases hy with⟨f,as,q1,q2⟩ | ⟨l,f,tmps,as,bd,q1,q2,q3⟩;exact .inl ⟨f,as,q1,q2.mono mono⟩;exact .inr ⟨l,f,tmps,as,bd,q1,q2,λcc cs hro=>by
  have⟨e,w',hR',rest⟩:=q3 cc cs hro;simp_all <;>grind⟩
end
def HL {α:Type}{l r:List α}{x:α}{n:Nat}(h:l.drop n=x::r):l[n]? =some x/\l.drop (n+1)=r:=by
 have h1:(l.drop n)[0]? =some x:=by rw[h];rfl
 have h2:(l.drop n).drop 1=r:=by rw[h];rfl
 grind [List.drop_drop]
theorem n8 {ops:List Oper}{a:Act}{o:Oper}:(Region.wanted o (yielded ops.toArray a.tmps)=true)↔GOk ops a o.guard:=by
 grind [Region.wanted,GOk]
theorem x9 (n:Nat)(E:∀ b s,a6 n s=[]->jN n b s=s):∀ (l:List SV) (b:Nat),l.flatMap (a6 n)=[]->vb (jN n) (λs=>(a6 n s).length) b l=l
 | [],_,_=>rfl
 |x::r,b,h=>by
  simp only[aqx,List.append_eq_nil_iff]at h;simp only[vb];rw[E b x h.1,x9 n E r _ h.2]
def Fd:∀ (n b:Nat) (s:SV),a6 n s=[]->jN n b s=s:=by
 intro n;induction n with
 |zero=>intro b s h;cases s <;>simp[a6]at h <;>rfl
 |succ n E=>
  intro b s h;cases s with
  |agg l=>grind [a6,jN,x9]|tup l=>grind [a6,jN,x9]
  |_=>first|rfl|simp[a6]at h
section
variable {P:Program}{F:Nat->Prop}{own l5:Own}{w w':World}{ts:Tis}
theorem NE:∀ (n:Nat) (s:SV) (v:Value),Rel F own w s v->∀ id∈fV n s,∃ hd,own id=some hd:=by
 intro n;induction n with
 |zero=>
  intro s v hr id hm;cases hr with
  |ptr h1 h2=>grind [fV]|os h1 h2=>grind [fV]|rp h1 h2 O=>grind [fV]|gr h1 h2 O=>grind [fV]|gp h1 h2 O=>grind [fV]|vw h1 h2=>grind [fV]|_=>simp[fV]at hm
 |succ n Y=>
  intro s v hr id hm;have E:∀ (l:List SV) (c:Nat->Value),(∀ (j:Nat) (s:SV),l[j]? =some s->Rel F own w s (c j))->id∈l.flatMap (fV n)->∃ hd,own id=some hd:=by
   grind [List.getElem?_of_mem]
  cases hr with
  |ptr h1 h2=>grind [fV]|os h1 h2=>grind [fV]|rp h1 h2 O=>grind [fV]|gr h1 h2 O=>grind [fV]|gp h1 h2 O=>grind [fV]|vw h1 h2=>grind [fV]
  |ep c h1 h2=>exact E _ c h2 (by grind [fV])
  |ls c X V h1 h2=>exact E _ c h2 (by grind [fV])
  |agg V h1=>exact E _ _ h1 (by grind [fV])
  |tup V h1=>exact E _ _ h1 (by grind [fV])
  |fn V W h1 h2=>
   simp only[fV,aqz]at hm;rcases hm with hm|hm;exact E _ _ h1 hm;exact E _ _ h2 hm
  |_=>simp[fV]at hm
theorem Av {h:List Ob}(V:Hp F own w h):∀ (n:Nat) (O E:List Nat),(∀ id∈O,∃ hd,own id=some hd)->(∀ id∈E,∃ hd,own id=some hd)->∀ id∈reach h n O E,∃ hd,own id=some hd
 |0,_,E,_,h2=>h2|n+1,[],E,_,h2=>h2
 |n+1,id::O,E,h1,h2=>by
  simp[reach];cases X:FN id E with
  |true=>exact Av V n _ _ (λi hi=>h1 i (by simp[hi])) h2
  |false=>
   refine Av V n _ _ (λi hi=>?_) (λi hi=>?_)
   ·rcases aqz.1 hi with hi|hi;cases W:aq h id with
    |cells l=>
     rw[W]at hi;have⟨hd,e1,e2⟩:=V.at W rfl;have⟨b,cs,ty,q1,q2,q3,q4,q5⟩:=e2;have⟨x,hx,hxi⟩:=arL.1 hi;have⟨j,hj⟩:=aqX hx;exact NE 3 x _ (q5 j x hj) i hxi
    |_=>rw[W]at hi;simp[Ya]at hi
    grind
   rcases aqz.1 hi with hi|hi <;>simp_all
theorem HM {h:List Ob}(E:Hp F own w h){args:List SV}{vs:Array Value}(hr:atP F own w args vs):∀ id∈reach h 64 (args.flatMap (fV 3)) [],id<h.length:=λid O=>by
 have⟨hd,e⟩:=Av E 64 _ [] (λi hi=>by
  have⟨x,hx,hxi⟩:=arL.1 hi;have⟨j,hj⟩:=aqX hx;exact NE 3 x _ (hr.2 j x hj) i hxi) (λi hi=>by cases hi) id O
 exact E.dom _ _ e
variable {w0:Bs}{ro:Option Nat}{nd:Nat}{N n:Nat}{ops:List Oper}{st:St}{a:Act}{G:Cons}
def HN (a:Own)(E:Below w.heap.size w w'):Fr { w:=w,own:=a} a w':=(Fr.refl { w:=w,own:=a}).below E
theorem wr (n k:Nat):k<n+1↔k<n\/k=n:=XM
variable {E E':Nat->Prop}{o:Oper}
theorem atV.auH(hr:ROk N ops)(hE:∀ k,E' k↔E k\/k=n)(V:¬E n)(hi:atV F w0 N ops E own st a w)(ho:ops[n]? =some o)(O:∀ j b,o.guard=some (j,b)->E j)(X:GOk ops a o.guard){s:SV}{u:Value}(hb:Below w.heap.size w w')(hs:Rel F own w' s u):
  atV F w0 N ops E' own (st.put o.dst s) (a.put o.dst u) w'/\(∀ g,o.guard=some g->atV F w0 N ops E' own (st.put o.dst (.gd g.1 g.2 s)) (a.put o.dst u) w'):=by
 have g:Fr { w:=w,own:=own} own w':=HN own hb;have W:=hi.hp.below hb;refine⟨hi.step hr hE V ho g W O (zB hs) (λ_ _=>X) (λj b s' e=>?_),λgg Y=>hi.step hr hE V ho g W O ⟨(hE _).2 (.inl (O _ _ Y)),⟨n,o,gg.2,ho,Y⟩,λ_=>hs⟩ (λ_ _=>X) (λj b s' e=>?_)⟩;subst e;cases hs;grind
variable {h':List Ob}
theorem atV.auC(hr:ROk N ops)(hE:∀ k,E' k↔E k\/k=n)(V:¬E n)(hi:atV F w0 N ops E own st a w)(ho:ops[n]? =some o)(O:∀ j b,o.guard=some (j,b)->E j)(X:GOk ops a o.guard){s:SV}{u:Value}(hp:Hp F l5 w' h')(W:Fr { w:=w,own:=own} l5 w')(hs:Rel F l5 w' s u):
  atV F w0 N ops E' l5 (St.put ⟨st.t,h'⟩ o.dst s) (a.put o.dst u) w'/\(∀ g,o.guard=some g->atV F w0 N ops E' l5 (St.put ⟨st.t,h'⟩ o.dst (.gd g.1 g.2 s)) (a.put o.dst u) w'):=by
 refine⟨hi.step hr hE V ho W hp O (zB hs) (λ_ _=>X) (λj b s' e=>?_),λgg Y=>hi.step hr hE V ho W hp O ⟨(hE _).2 (.inl (O _ _ Y)),⟨n,o,gg.2,ho,Y⟩,λ_=>hs⟩ (λ_ _=>X) (λj b s' e=>?_)⟩;subst e;cases hs;grind
theorem atV.skip(hr:ROk N ops)(hE:∀ k,E' k↔E k\/k=n)(V:¬E n)(hi:atV F w0 N ops E own st a w)(Y:ops[n]? =some o)(O:∀ j b,o.guard=some (j,b)->E j)(hgo:¬GOk ops a o.guard){g:Nat×Bool}(X:o.guard=some g){s:SV}:
  atV F w0 N ops E' own (st.put o.dst (.gd g.1 g.2 s)) (a.put o.dst undef) w:=by
 have W:oJ ops g.1:=⟨n,o,g.2,Y,X⟩;refine hi.step hr hE V Y (Fr.refl { w:=w,own:=own}) hi.hp O ⟨(hE _).2 (.inl (O _ _ X)),W,λhy=>?_⟩ (λb hb=>by simp[undef]at hb) (λj b s' e=>XN);exfalso;apply hgo;rw[X];have⟨q,d,h1,h2,h3⟩:=hr.uniq g.1 W;exact(LU h1 h2 (h3 n o (λe=>V (e▸O _ _ X)) Y) g.2).1 hy
theorem DW {cx:Cx}{op:Op}(h:opS cx op≠ .bad):∀ c,op≠ .defer c:=by
 rintro c rfl;exact h rfl
theorem atV.out(hi:atV F w0 N ops E own st a w):ati F w0 N own ⟨aug st.t,st.h⟩ a w:=ati.aug hi
theorem ati.avk(O:ati F w0 N own st a w)(hp:Hp F l5 w' h')(E:Fr { w:=w,own:=own} l5 w'):ati F w0 N l5 ⟨st.t,h'⟩ a w':=
 ⟨O.size,O.defers.fr E O.hp.apart,hp,O.fr.trans E,λt=>(O.slots t).mono E.aub⟩
def L1 (a:Own)(w:World):at4 F a w a { w with drawn:=w.drawn+1}:=⟨λ_ b h=>⟨b,h,.refl _⟩,λ_ _ h=>⟨h,rfl⟩,aqb _⟩
theorem ati.drew {own:Own}{st:St}{a:Act}{w:World}(h:ati F w0 N own st a w):ati F w0 N own st a { w with drawn:=w.drawn+1}:=
 ⟨h.size,h.defers,h.hp.aub (L1 own w) λ_ _ _ _ _=>rfl,h.fr.drew,λt=>(h.slots t).mono (L1 own w)⟩
def UL (G:Cons)(ops:List Oper)(d:Option Nat)(st:St)(next:St->Prop)(Z:Value->St->Prop):Option (Nat×Bool)->OR->Prop
 |none,r=>ow G d st next Z r|some g,r=>stepG G ops g d st next Z r
variable {Q:Exit->Act->World->Prop}
theorem fI{K:Act->World->Prop}{u:Value}{E:Result Next}(O:E=.ok (.value u) w'\/(E=.ok .skip w'/\u=undef))(h:K (a.put o.dst u) w'):
  o.uponIn (rd ro) nd P a K Q E:=by
 rcases O with rfl| ⟨rfl,rfl⟩ <;>exact h
theorem GH {ops:List Oper}{t:List (Nat×SV)}:∀ (n:Nat) (g:Nat×Bool),eb ops t n g->zr ops t n g->False
 |0,_,_,h=>h
 |n+1,(j,want),h1,h2=>by
  simp[eb]at h1;simp[zr]at h2;split at h1
  rename_i d hd;rw[hd]at h2;simp at h2;split at h1
  grind
  rename_i O b x E;rw[E]at h2;rcases h2 with h2|h2;exact GH n (O,b) h1.1 h2;grind
  grind
  grind
theorem Wv {α:Type}{l:List α}(h:l.Nodup){i j:Nat}{x:α}(hi:l[i]? =some x)(E:l[j]? =some x):i=j:=by
 grind [List.pairwise_iff_getElem]
theorem afD {h:List Ob}(hp:Hp F own w h){id:Nat}{hd:Hd}{b:Nat}(e1:own id=some hd)(e2:hd.p=some b){mid n:Nat}{left:List Nat}{cur:Option Nat}(ho:aq h id=.mi (some mid) n left cur)
  {kk W:Tag} {l:List (kk.T×W.T)} (hm:aq h mid=.mp kk W l (some (id,none))) (hn:n=l.length) (ty:TypeId):
  (left=[]/\(Instr.next (.pointer (some ⟨b,0,none⟩)) false ty).run P w=.ok (.tuple #[.bool false]) w)\/
  ∃ j∈left,∃ u w',(Instr.next (.pointer (some ⟨b,0,none⟩)) false ty).run P w=.ok u w'/\Step F own w (cO h id (.mi (some mid) n (left.erase j) (some j))) own w'/\
   Rel F own w' (.tup [.v (.bool true),svT kk (l.getD j (eT kk,eT W)).1,svT W (l.getD j (eT kk,eT W)).2]) u:=by
 obtain⟨hd',Y,b',p1,p2,p3⟩:=hp.at ho rfl;rw[e1]at Y;cases Y;rw[e2]at p1;cases p1;obtain⟨hdm,bm,seen,c0,ss,k1,k2,k3,k4,k5,k6,k7,k8⟩:=p3 _ rfl;obtain⟨hdm',X,bm',es,clk,m1,m2,m3,m4,m5,hd2,t1,t2⟩:=hp.at hm rfl;rw[k1]at X;cases X;rw[k2]at m1;cases m1;rw[e1]at t1;cases t1;obtain⟨hc0,hss⟩:=UB (k4.symm.trans t2);subst hc0;subst hss;have hes:es.size=l.length:=by simpa[fB]using m4.1
 have hget:∀ i (hi:i<es.size),(lX es)[i]? =some es[i].born:=λi hi=>by simp[lX,hi]
 have V:∀ x∈es.toList,x.born<c0:=λx hx=>m5.2 _ (arI hx);rcases Nx (P:=P) (ty:=ty) k3 m3 V (aqb _)with⟨h1,h2⟩ | ⟨e,h1,w1,h2,h3⟩;refine .inl ⟨?_,h2⟩;cases hl:left with
 |nil=>rfl
 |cons k r=>
  have⟨s9,hs9,hn9⟩:=(k7 k).1 (by rw[hl];simp);have hke:k<es.size:=XN
  have E:es[k]∈leftOf es seen:=by
   grind [leftOf]
  grind
 have E:e∈es/\¬e.born∈seen.toList:=by
  grind [leftOf]
 obtain⟨j,hj,hje⟩:=asX E.1;have hb:(lX es)[j]? =some e.born:=XN
 have hjl:j∈left:=(k7 j).2 ⟨_,hb,E.2⟩;have hh:w1.heap=w.heap:=by rcases h2 with rfl|rfl <;>rfl
 have st:Step F own w (cO h id (.mi (some mid) n (left.erase j) (some j))) own { w1 with heap:=w1.heap.setIfInBounds b (.mapIter (some bm) c0 (seen.push e.born) c0)}:=by
  refine rS hp e1 (b:=b) (by rw[p2];simp) ?_ (λk O=>?_) ?_ ?_ ?_ _ λg=>⟨b,e2,p2,λi hi=>?_⟩;grind
  grind
  rcases h2 with rfl|rfl <;>rfl;rcases h2 with rfl|rfl <;>rfl;rcases h2 with rfl|rfl <;>rfl;cases hi;refine⟨hdm,bm,seen.push e.born,c0,lX es,k1,k2,?_,k4,k5,k6.erase j,λk=>?_,λj' hj'=>?_⟩;grind
  rw[k6.mem_erase_iff,k7 k,Array.toList_push];constructor
  rintro⟨a,s,b,c⟩;refine⟨s,b,λh=>?_⟩;rcases aqz.1 h with h|h;exact c h;simp at h;subst h;exact a (Wv m5.1 b hb);grind
  grind
 refine .inr ⟨j,hjl,_,_,h3,st,.tup rfl λk s O=>?_⟩;have hgd:l.getD j (eT kk,eT W)=l[j]:=XN
 rw[hgd]at O;have⟨e3,g1,_,g3,g4⟩:=m4.2 j l[j] (by simp[fB]);rw[arE hj,hje]at g1;cases g1;match k,O with
 |0,O=>cases O;exact .v _|1,O=>cases O;exact g3.mono st.fr.aub|2,O=>cases O;exact g4.mono st.fr.aub
variable {Z:Value->St->Prop}
theorem UN(hts:ts.ok P)(hG:atj P G)(hr:ROk N ops)(hE:∀ k,E' k↔E k\/k=n)(X:¬E n)(ho:ops[n]? =some o)(W:∀ j b,o.guard=some (j,b)->E j)
  (hi:atV F w0 N ops E own st a w)  {K:Act->World->Prop} {next:St->Prop}  (hZ:∀ x own st a w,ati F w0 N own st a w->Z x st->Q (.panic [{ v:=x,recovered:=false}]) a w)
  (O:UL G ops o.dst st next Z o.guard (opS ⟨ts,ops,o.guard,st,st.h.length⟩ o.op)) (hK:∀ own st a w,atV F w0 N ops E' own st a w->next st->K a w):
  (GOk ops a o.guard->(∀ c,o.op≠ .defer c)/\o.uponIn (rd ro) nd P a K Q ((execOp a.eval o).run P w))/\(¬GOk ops a o.guard->K (a.put o.dst undef) w):=by
 cases hg:o.guard with
 |none=>
  have hnd:∀ c,o.op≠ .defer c:=DW (cx:=⟨ts,ops,o.guard,st,st.h.length⟩) (λe=>by rw[e,hg]at O;exact O);refine⟨λ_=>⟨hnd,?_⟩,λh=>absurd trivial h⟩;rw[hg]at O;have V:GOk ops a o.guard:=XN
  have h:=S5 (P:=P) (ts:=ts) (ops:=ops) (g:=none) (t:=st.t) (h:=st.h) (nx:=st.h.length) hts hi.hp hi.hp.nx (a:=a) (o:=o) (Nz hi trivial (λk c e=>by cases e)) (λc x y _=>⟨λhc=>Au (g:=none) hi trivial (λk c e=>by cases e) c x true hc,λhc=>Au (g:=none) hi trivial (λk c e=>by cases e) c y false hc⟩);generalize opS ⟨ts,ops,none,⟨st.t,st.h⟩,st.h.length⟩ o.op=r at h O;cases r with
  |bad=>exact O.elim
  |val s=>
   have⟨u,e1,e2⟩:=h;exact fI (.inl e1) (hK _ _ _ _ (hi.auH hr hE X ho W V (Below.refl _ _) e2).1 O)
  |chk c s=>
   have⟨u,e1,e2⟩:=h O.1;exact fI (.inl e1) (hK _ _ _ _ (hi.auH hr hE X ho W V (Below.refl _ _) e2).1 O.2)
  |asm c s=>
   have⟨hc,u,e1,e2⟩:=h;exact fI (.inl e1) (hK _ _ _ _ (hi.auH hr hE X ho W V (Below.refl _ _) e2).1 (O hc))
  |auh s=>
   have⟨u,cs,ty,e1,e2⟩:=h;exact fI (.inl e1) (hK _ _ _ _ (hi.auH hr hE X ho W V (tA _ _) e2).1 O)
  |amb p=>
   have⟨b,h1,h2⟩:=h;exact fI (.inl h2) (hK _ _ _ _ (hi.auH hr hE X ho W V (Below.refl _ _) (.v _)).1 (O b h1))
  |nxt id=>
   have⟨hd,b,e1,e2,ty,hrun⟩:=h;change acd id o.dst st next (aq st.h id)at O
   cases hob:aq st.h id with
   |mi mid n' left cur=>
    rw[hob]at O;cases mid with
    |none=>exact O.elim
    |some mid=>
     change Yb id mid n' left o.dst st next (aq st.h mid)at O
     cases hm:aq st.h mid with
     |mp kk vk l aui=>
      rw[hm]at O;cases aui with
      |none=>exact O.elim
      |some q=>
      have⟨it,q⟩:=q;cases q with
      |some _=>exact O.elim
      |none=>
       have⟨⟨x0,x1⟩,x2,x3⟩:=O;subst x0;rcases afD (P:=P) hi.hp e1 e2 hob hm x1 ty with⟨q1,q2⟩ | ⟨j,q1,u,w',q2,q3,q4⟩;exact fI (.inl (hrun _ _ q2)) (hK _ _ _ _ (hi.auH hr hE X ho W V (Below.refl _ _) (.tup rfl λk s hk=>by
        match k,hk with
        |0,hk=>cases hk;exact .v _)).1 (x2 q1))
       exact fI (.inl (hrun _ _ q2)) (hK _ _ _ _ (hi.auC hr hE X ho W V q3.hp q3.fr q4).1 (x3 j q1))
     |_=>rw[hm]at O;exact O.elim
   |_=>rw[hob]at O;exact O.elim
  |eff c ac ups s=>
   have⟨hc,O⟩:=O;have⟨ha,u,l5,w',e1,e2,e3⟩:=h hc;exact fI e1 (hK _ _ _ _ (hi.auC hr hE X ho W V e3.hp e3.fr e2).1 (O ha))
  |call f args=>
   have⟨vs,e1,e2⟩:=h;change zt (args.all (dC 3)) (reach st.h 64 (args.flatMap (fV 3)) []) o.dst st next Z (G.o f (args.map (ren (inN (reach st.h 64 (args.flatMap (fV 3)) [])) 6)) (wM st.h (reach st.h 64 (args.flatMap (fV 3)) []))) (G.p f (args.map (iW st.h 6)))at O
   have hx2:Cq (reach st.h 64 (args.flatMap (fV 3)) []) o.dst st next Z (G.o f (args.map (ren (inN (reach st.h 64 (args.flatMap (fV 3)) [])) 6)) (wM st.h (reach st.h 64 (args.flatMap (fV 3)) [])))\/∃ c,G.p f (args.map (iW st.h 6))=some c/\zt (args.all (dC 3)) (reach st.h 64 (args.flatMap (fV 3)) []) o.dst st next Z (G.o f (args.map (ren (inN (reach st.h 64 (args.flatMap (fV 3)) [])) 6)) (wM st.h (reach st.h 64 (args.flatMap (fV 3)) []))) (some c)/\¬ (∃ p s,c=.det p s/\(args.all (dC 3) ||jQ 3 s)=false):=by
    cases hc:G.p f (args.map (iW st.h 6))with
    |none=>rw[hc]at O;exact .inl O
    |some c=>
     rw[hc]at O;by_cases hdet:∃ p s,c=.det p s/\(args.all (dC 3) ||jQ 3 s)=false
     obtain⟨p,s,rfl,hb⟩:=hdet;change (bif args.all (dC 3) ||jQ 3 s then _ else _)at O;grind
     grind
   rcases hx2 with O| ⟨c,hc,O,hdet⟩;have auR:=HM hi.hp e1;have hn:=tE st.h 64 (args.flatMap (fV 3)) [] arz;generalize reach st.h 64 (args.flatMap (fV 3)) []=ids at O auR hn;cases ho2:G.o f (args.map (ren (inN ids) 6)) (wM st.h ids)with
   |none=>rw[ho2]at O;exact O.elim
   |some c=>
    rw[ho2]at O;have⟨hpre,O⟩:=O;have⟨k1,k2⟩:=Qe hG hi.hp e1 hn ho2 hpre auR;rw[e2,k1];refine⟨λh=>(by cases h),?_⟩;refine CallsIn.mono (oK k2) ?_;rintro e w' ⟨r,l5,hr1,hr2⟩;have O:=O r hr1;cases hres:c.res r with
    |ret s h'=>
     rw[hres]at hr2 O;obtain⟨⟨u,rfl,aun⟩,hp',hfr⟩:=hr2;exact hK _ _ _ _ (hi.auC hr hE X ho W V hp' hfr aun).1 O
    |pan x h'=>
     rw[hres]at hr2 O;obtain⟨rfl,hp',hfr⟩:=hr2;exact hZ x l5 ⟨aug st.t,ov ids st.h.length st.h 0 h'⟩ a w' (hi.out.avk hp' hfr) O
   ·have hcall:an c/\(args.all (dC 3)=true\/∀ s,et c s->jQ 3 s=true)/\(∀ s,et c s->next (St.put ⟨st.t,st.h++a6 3 s⟩ o.dst (jN 3 st.h.length s)))/\∀ x,lA c x->Z x ⟨aug st.t,st.h⟩:=by
     cases c with
     |det p s=>
      change (bif args.all (dC 3) ||jQ 3 s then _ else _)at O;cases hb:args.all (dC 3) ||jQ 3 s with
      |false=>grind
      |true=>
       rw[hb]at O;have⟨hp,O⟩:=O;refine⟨hp,?_,λs' hs'=>by cases hs';exact O,λx h=>h.elim⟩;rw[aqG]at hb;exact hb.imp id (λh s' hs'=>by cases hs';exact h)
     |rel α pre post out=>
      have⟨hp,O⟩:=O;cases hb:args.all (dC 3)with
      |false=>grind
      |true=>
       rw[hb]at O;refine⟨hp,.inl rfl,λs' hs'=>?_,λx h=>h.elim⟩;obtain⟨r,h1,rfl⟩:=hs';exact O r h1
     |may ok s x=>
      change (bif args.all (dC 3) ||jQ 3 s then(ok=true->next (St.put ⟨st.t,st.h++a6 3 s⟩ o.dst (jN 3 st.h.length s)))/\(ok=false->Z x ⟨aug st.t,st.h⟩)else False)at O;cases hb:args.all (dC 3) ||jQ 3 s with
      |false=>grind
      |true=>
       rw[hb]at O;refine⟨trivial,?_,λs' hs'=>by have⟨h1,rfl⟩:=hs';exact O.1 h1,λx' hs'=>by have⟨h1,rfl⟩:=hs';exact O.2 h1⟩;rw[aqG]at hb;exact hb.imp id (λh s' hs'=>by have⟨_,rfl⟩:=hs';exact h)
    have⟨q1,q2,q3,q4⟩:=hcall;have⟨k1,k2⟩:=GF (P:=P) hG hi.hp e1 hc q1 q2;rw[e2,k1];refine⟨λh=>(by cases h),?_⟩;refine CallsIn.mono (oK k2) ?_;rintro e w' (⟨s,u,X1,m1,rfl,m2,m3,m4,m5⟩ | ⟨x,m1,rfl,m4⟩);exact hK _ _ _ _ (hi.auC hr hE X ho W V m2 m3 m4).1 (q3 s m1);exact hZ x own ⟨aug st.t,st.h⟩ a w' (hi.out.avk (hi.hp.below m4) (HN own m4)) (q4 x m1)
  |yld id args=>
   have⟨hd,e0,vs,e1,e2⟩:=h;change (bif args.all (dC 3)then SE id o.dst st next (Nl G args (aq st.h id))else False)at O;cases hb:args.all (dC 3)with
   |false=>grind
   |true=>
    rw[hb]at O;cases hob:aq st.h id with
    |ab r=>
     rw[hob]at O;change SE id o.dst st next (G.y args r)at O
     cases hc:G.y args r with
     |none=>rw[hc]at O;exact O.elim
     |some c=>
      rw[hc]at O;have⟨hpre,O⟩:=O;have mono:∀ (w':World) a' X1,c.post a'->Hp F X1 w' (cO st.h id (.ab (c.res a').2))->Fr { w:=w,own:=own} X1 w'->K (a.put o.dst (.bool (c.res a').1)) w':=by
       intro w' a' X1 m1 m2 m3;exact hK _ _ _ _ (hi.auC hr hE X ho W V m2 m3 (.v _)).1 (O a' m1)
      rcases Qf hG hi.hp e0 e1 hb hob hc hpre with⟨f,as,k1,k2⟩ | ⟨l,f,tmps,as,bd,k1,k2⟩;rw[e2,k1];exact⟨λh=>(by cases h),CallsIn.mono (oK k2) XN⟩;rw[e2,k1];exact⟨λh=>(by cases h),RoundIn.mono (Qc k2) XN⟩
    |_=>rw[hob]at O;exact O.elim
  |pan x=>
   rw[show(execOp a.eval o).run P w=.halt (.panic x) w from h];exact hZ x own ⟨aug st.t,st.h⟩ a w hi.out O
 |some g=>
  rw[hg]at O;have hlt:=hr.lt n o g.1 g.2 ho hg;have hrf:oJ ops g.1:=⟨n,o,g.2,ho,hg⟩;have hjE:E g.1:=W g.1 g.2 hg;refine⟨λavn=>?_,λavn=>?_⟩
  ·have V:GOk ops a o.guard:=XN
   have hgp:eb ops st.t ops.length g:=xg hi n (λ_ _ _ _ _ _ _ _=>rfl) hr.lt _ g hlt hjE hrf avn;have hnd:∀ c,o.op≠ .defer c:=DW (cx:=⟨ts,ops,o.guard,st,st.h.length⟩) (λe=>by rw[hg]at e;rw[show(opS ⟨ts,ops,some g,⟨st.t,st.h⟩,st.h.length⟩ o.op)=.bad from e]at O;exact GH _ _ hgp O.1);refine⟨hnd,?_⟩;have hgn:∀ k c,some g=some (k,c)->E k/\oJ ops k:=λk c e=>XN
   have h:=S5 (P:=P) (ts:=ts) (ops:=ops) (g:=some g) (t:=st.t) (h:=st.h) (nx:=st.h.length) hts hi.hp hi.hp.nx (a:=a) (o:=o) (Nz hi avn hgn) (λc x y _=>⟨λhc=>Au hi avn hgn c x true hc,λhc=>Au hi avn hgn c y false hc⟩);generalize opS ⟨ts,ops,some g,⟨st.t,st.h⟩,st.h.length⟩ o.op=r at h O;cases r with
   |bad=>exact(GH _ _ hgp O.1).elim|pan x=>exact O.elim|nxt id=>exact O.elim|amb p=>exact O.elim
   |val s=>
    have⟨u,e1,e2⟩:=h;exact fI (.inl e1) (hK _ _ _ _ ((hi.auH hr hE X ho W V (Below.refl _ _) e2).2 g hg) O)
   |chk c s=>
    have⟨u,e1,e2⟩:=h (O.1 hgp);exact fI (.inl e1) (hK _ _ _ _ ((hi.auH hr hE X ho W V (Below.refl _ _) e2).2 g hg) O.2)
   |asm c s=>
    have⟨_,u,e1,e2⟩:=h;exact fI (.inl e1) (hK _ _ _ _ ((hi.auH hr hE X ho W V (Below.refl _ _) e2).2 g hg) O)
   |auh s=>
    have⟨u,cs,ty,e1,e2⟩:=h;exact fI (.inl e1) (hK _ _ _ _ ((hi.auH hr hE X ho W V (tA _ _) e2).2 g hg) O)
   |eff c ac ups s=>
    have⟨hc,O⟩:=O.1 hgp;have⟨ha,u,l5,w',e1,e2,e3⟩:=h hc;exact fI e1 (hK _ _ _ _ ((hi.auC hr hE X ho W V e3.hp e3.fr e2).2 g hg) (O ha))
   |call f args=>
    have⟨vs,e1,e2⟩:=h;change Hg (args.all (dC 3)) (reach st.h 64 (args.flatMap (fV 3)) []) ops g o.dst st next Z (G.o f (args.map (ren (inN (reach st.h 64 (args.flatMap (fV 3)) [])) 6)) (wM st.h (reach st.h 64 (args.flatMap (fV 3)) []))) (G.p f (args.map (iW st.h 6)))at O
    cases hc:G.p f (args.map (iW st.h 6))with
    |none=>
     rw[hc]at O;have auR:=HM hi.hp e1;have hn:=tE st.h 64 (args.flatMap (fV 3)) [] arz;generalize reach st.h 64 (args.flatMap (fV 3)) []=ids at O auR hn;cases ho2:G.o f (args.map (ren (inN ids) 6)) (wM st.h ids)with
     |none=>rw[ho2]at O;exact(GH _ _ hgp O.1).elim
     |some c=>
      rw[ho2]at O;have⟨hpre,O⟩:=O.1 hgp;have⟨k1,k2⟩:=Qe hG hi.hp e1 hn ho2 hpre auR;rw[e2,k1];refine⟨λh=>(by cases h),?_⟩;refine CallsIn.mono (oK k2) ?_;rintro e w' ⟨r,l5,hr1,hr2⟩;have O:=O r hr1;cases hres:c.res r with
      |ret s h'=>
       rw[hres]at hr2 O;obtain⟨⟨u,rfl,aun⟩,hp',hfr⟩:=hr2;exact hK _ _ _ _ ((hi.auC hr hE X ho W V hp' hfr aun).2 g hg) O
      |pan x h'=>
       rw[hres]at hr2 O;obtain⟨rfl,hp',hfr⟩:=hr2;exact hZ x l5 ⟨aug st.t,ov ids st.h.length st.h 0 h'⟩ a w' (hi.out.avk hp' hfr) O
    |some c=>
     rw[hc]at O;cases c with
     |rel=>exact O.elim|may=>exact O.elim
     |det p s=>
      have⟨hp,O⟩:=O;cases hb:(args.all (dC 3) ||jQ 3 s)&&(a6 3 s).isEmpty with
      |false=>grind
      |true=>
       rw[hb]at O;rw[ap9,aqG]at hb;have⟨k1,k2⟩:=GF (P:=P) hG hi.hp e1 hc (hp hgp) (hb.1.imp id (λh s' hs'=>by cases hs';exact h));rw[e2,k1];refine⟨λh=>(by cases h),?_⟩;refine CallsIn.mono (oK k2) ?_;rintro e w' (⟨s',u,X1,rfl,rfl,m2,m3,m4,m5⟩ | ⟨x,m1,_⟩);have hz:a6 3 s'=[]:=List.isEmpty_iff.1 hb.2;rw[hz,aqo]at m2;rw[Fd 3 _ s' hz]at m4;exact hK _ _ _ _ ((hi.auC hr hE X ho W V m2 m3 m4).2 g hg) O;exact m1.elim
   |yld id args=>
    have⟨hd,e0,vs,e1,e2⟩:=h;change (bif args.all (dC 3)then PK id ops g o.dst st next (Nl G args (aq st.h id))else False)at O;cases hb:args.all (dC 3)with
    |false=>grind
    |true=>
     rw[hb]at O;cases hob:aq st.h id with
     |ab r=>
      rw[hob]at O;change PK id ops g o.dst st next (G.y args r)at O
      cases hc:G.y args r with
      |none=>rw[hc]at O;exact O.elim
      |some c=>
       rw[hc]at O;have⟨hpre,O⟩:=O.1 hgp;have mono:∀ (w':World) a' X1,c.post a'->Hp F X1 w' (cO st.h id (.ab (c.res a').2))->Fr { w:=w,own:=own} X1 w'->K (a.put o.dst (.bool (c.res a').1)) w':=by
        intro w' a' X1 m1 m2 m3;exact hK _ _ _ _ ((hi.auC hr hE X ho W V m2 m3 (.v _)).2 g hg) (O a' m1)
       rcases Qf hG hi.hp e0 e1 hb hob hc hpre with⟨f,as,k1,k2⟩ | ⟨l,f,tmps,as,bd,k1,k2⟩;rw[e2,k1];exact⟨λh=>(by cases h),CallsIn.mono (oK k2) XN⟩;rw[e2,k1];exact⟨λh=>(by cases h),RoundIn.mono (Qc k2) XN⟩
     |_=>rw[hob]at O;exact O.elim
  ·have V:¬GOk ops a o.guard:=XN
   have hgN:gN ops st.t ops.length g:=DV hi _ g hjE hrf avn;have Y:=λs=>hi.skip hr hE X ho W V hg (s:=s);generalize opS ⟨ts,ops,some g,⟨st.t,st.h⟩,st.h.length⟩ o.op=r at O;cases r with
   |bad=>exact hK _ _ _ _ (Y .any) O.2|pan x=>exact O.elim|nxt id=>exact O.elim|amb p=>exact O.elim|val s=>exact hK _ _ _ _ (Y _) O|chk c s=>exact hK _ _ _ _ (Y _) O.2|asm c s=>exact hK _ _ _ _ (Y _) O|auh s=>exact hK _ _ _ _ (Y _) O|eff c ac ups s=>exact hK _ _ _ _ (Y _) (O.2 hgN)
   |call f args=>
    change Hg (args.all (dC 3)) (reach st.h 64 (args.flatMap (fV 3)) []) ops g o.dst st next Z (G.o f (args.map (ren (inN (reach st.h 64 (args.flatMap (fV 3)) [])) 6)) (wM st.h (reach st.h 64 (args.flatMap (fV 3)) []))) (G.p f (args.map (iW st.h 6)))at O
    cases hc:G.p f (args.map (iW st.h 6))with
    |none=>
     rw[hc]at O;generalize reach st.h 64 (args.flatMap (fV 3)) []=ids at O;cases ho2:G.o f (args.map (ren (inN ids) 6)) (wM st.h ids)with
     |none=>rw[ho2]at O;exact hK _ _ _ _ (Y .any) O.2
     |some c=>
      rw[ho2]at O;exact hK _ _ _ _ (Y .any) (O.2 hgN)
    |some c=>
     rw[hc]at O;cases c with
     |rel=>exact O.elim|may=>exact O.elim
     |det p s=>
      have⟨hp,O⟩:=O;grind
   |yld id args=>
    change (bif args.all (dC 3)then PK id ops g o.dst st next (Nl G args (aq st.h id))else False)at O;cases hb:args.all (dC 3)with
    |false=>grind
    |true=>
     rw[hb]at O;cases hc:Nl G args (aq st.h id)with
     |none=>rw[hc]at O;exact O.elim|some c=>rw[hc]at O;exact hK _ _ _ _ (Y .any) (O.2 hgN)
theorem atV.congr{O:Nat->Prop}(h:∀ k,E k↔O k){st:St}(hi:atV F w0 N ops E own st a w):atV F w0 N ops O own st a w:=by
 have:E=O:=funext λk=>propext (h k);grind
theorem atV.all {st:St}(hr:ROk N ops){n:Nat}(hn:ops.length<=n)(hi:atV F w0 N ops (· <n) own st a w):atV F w0 N ops (· <ops.length) own st a w:=by
 refine⟨hi.size,hi.defers,hi.hp,hi.fr,λt=>?_,λk o d j b s W=>hi.tags k o d j b s XM,λk o j b W E X=>by have:=hr.lt k o j b E X;omega,λk o b W O E hy=>hi.chain k o b XM O E hy⟩;have:=hi.slots t;cases V:lk t st.t with
 |gd j b s=>
  rw[V]at this;have⟨_,⟨i,o,b',h1,h2⟩,h3⟩:=this;exact⟨by have:=hr.lt i o j b' h1 h2;grind,⟨i,o,b',h1,h2⟩,h3⟩
 |_=>rw[V]at this;exact this
theorem NF{ts:Tis}{G:Cons}{ops rest:List Oper}{st:St}{K:St->Prop}(h:kH ts G ops (o::rest) st K Z):
  UL G ops o.dst st (λst'=>kH ts G ops rest st' K Z) Z o.guard (opS ⟨ts,ops,o.guard,st,st.h.length⟩ o.op):=by
 simp[kH]at h;cases E:o.guard <;>rw[E]at h <;>exact h
theorem S7 (E:ts.ok P)(hG:atj P G)(hr:ROk N ops){Q:Exit->Act->World->Prop}{K:St->Prop}{Z:Value->St->Prop}(hZ:∀ x own st a w,ati F w0 N own st a w->Z x st->Q (.panic [{ v:=x,recovered:=false}]) a w):
  ∀ (rest:List Oper) (n:Nat) (own:Own) (st:St) (a:Act) (w:World),ops.drop n=rest->atV F w0 N ops (· <n) own st a w->kH ts G ops rest st K Z->
  (∀ own st a w,atV F w0 N ops (· <ops.length) own st a w->K st->Q .normal a w)->wpListIn (rd ro) nd P ops.toArray Q rest a w
 | [],n,own,st,a,w,hd,hi,W,V=>by
  have hn:ops.length<=n:=by
   simp_all
  exact V own st a w (hi.all hr hn) W
 |o::rest,n,own,st,a,w,hd,hi,W,V=>by
  have⟨ho,hd'⟩:=HL hd;have ih:=λl5 st' a' w' (O:atV F w0 N ops (· <n+1) l5 st' a' w') Y=>S7 E hG hr hZ rest (n+1) l5 st' a' w' hd' O Y V;have⟨h1,h2⟩:=UN (ro:=ro) (nd:=nd) E hG hr (wr n) (arh n) ho (λj b e=>hr.lt n o j b ho e) hi hZ (NF W) ih;by_cases X:GOk ops a o.guard
  unfold wpListIn;rw[if_pos (n8.2 X)];refine⟨λ_ _=>trivial,?_⟩;grind [Oper.semAt_eq];grind [n8,wpListIn]
end
def aku (o:Ob):Prop:=o=.dead\/o=.fwd none
def auK (o a:Ob):Prop:=o=a\/(∃ (kk vk:Tag) (l:List (kk.T×vk.T)) (p p':Option (Nat×Option kk.T)),o=.mp kk vk l p/\a=.mp kk vk l p')\/(aku o/\aku a)
theorem auK.refl (o:Ob):auK o o:=.inl rfl
theorem auK.symm {a b:Ob}(h:auK a b):auK b a:=by
 rcases h with rfl| ⟨kk,V,l,p,p',E,O⟩ | ⟨h1,h2⟩;exact .inl rfl;exact .inr (.inl ⟨kk,V,l,p',p,O,E⟩);exact .inr (.inr ⟨h2,h1⟩)
theorem auK.trans {a b c:Ob}(h:auK a b)(h':auK b c):auK a c:=by
 rcases h with rfl| ⟨kk,vk,l,p,p',e1,O⟩ | ⟨h1,h2⟩;exact h';rcases h' with rfl| ⟨W,V,l',q,q',E,X⟩ | ⟨h3,Y⟩;exact .inr (.inl ⟨kk,vk,l,p,p',e1,O⟩);rw[O]at E;cases E;exact .inr (.inl ⟨kk,vk,l,p,q',e1,X⟩);rw[O]at h3;rcases h3 with h3|h3 <;>cases h3;rcases h' with rfl| ⟨W,V,l',q,q',E,X⟩ | ⟨h3,Y⟩;exact .inr (.inr ⟨h1,h2⟩);rw[E]at h2;rcases h2 with h2|h2 <;>cases h2;exact .inr (.inr ⟨h1,Y⟩)
theorem L2 (a b:List Up):fA (a++b)=fA a++fA b:=by
 induction a with
 |nil=>rfl|cons x r E=>simp[fA,E]
section
variable {h h':List Ob}
def Qg (ti:TI){s:SV}(E:∀ id∈gm s,aq h id=aq h' id):uk ti h s=uk ti h' s:=by
 cases s <;>first|rfl|(simp only[gm,aq8,forall_eq]at E;simp only[uk,E])
def CG (n:Nat){s:SV}(l:Option (List SV))(E:∀ id∈gm s,aq h id=aq h' id):t6 n h s l=t6 n h' s l:=by
 cases l <;>cases s <;>first|rfl|(simp only[gm,aq8,forall_eq]at E;simp only[t6,E])
def NG (n nx:Nat){s E:SV}(V:∀ id∈gm s++gm E,aq h id=aq h' id):u9 n nx h s E=u9 n nx h' s E:=by
 have h1:∀ id∈gm s,aq h id=aq h' id:=λid hi=>V id (arX _ hi);unfold u9;split
 rename_i sz id i off O;have W:=h1 id (by simp[gm]);have X:=V O (by simp[gm]);rw[CG n _ h1];simp_all [G_];exact CG _ _ h1
def NH (ti:TI)(n:Nat){s:SV}(i:SV)(E:∀ id∈gm s,aq h id=aq h' id):iO ti n h s i=iO ti n h' s i:=by
 cases i with
 |v x=>cases x <;>cases s <;>first|rfl|(simp only[gm,aq8,forall_eq]at E;simp only[iO,E])
 |_=>cases s <;>rfl
def NI (ti:TI)(n nx:Nat){s:SV}(lo hi:Option SV)(E:Bool)(O:∀ id∈gm s,aq h id=aq h' id):px ti n nx h lo hi E s=px ti n nx h' lo hi E s:=by
 cases s <;>first|rfl|simp_all [gm,px]
def Qh (ti:TI)(ok:Bool)(key:SV){s:SV}(E:∀ id∈gm s,aq h id=aq h' id):wg ti h ok key s=wg ti h' ok key s:=by
 cases s <;>first|rfl|(rename_i x;cases x <;>first|rfl|(rename_i y;cases y <;>rfl)) |simp_all [gm,wg]
def S8 (ti:TI)(key:SV){s:SV}(E:∀ id∈gm s,auK (aq h id) (aq h' id)):wg ti h false key s=wg ti h' false key s:=by
 cases s with
 |os id=>
  simp[gm,aq8,forall_eq]at E;simp[wg];rcases E with e| ⟨kk,W,l,p,p',V,O⟩ | ⟨h1,h2⟩;rw[e];rw[V,O];simp[Uv,aqN,Bool.true_or];rcases h1 with h1|h1 <;>rcases h2 with h2|h2 <;>rw[h1,h2] <;>rfl
 |v x=>cases x <;>first|rfl|(rename_i y;cases y <;>rfl)
 |_=>rfl
def HO (ti:TI)(key v:SV){s:SV}(E:∀ id∈gm s,aq h id=aq h' id):FM ti h key v s=FM ti h' key v s:=by
 cases s <;>first|rfl|simp_all [gm,FM]
def S9 (ti:TI)(nx:Nat){h h':List Ob}{s:SV}(h1:∀ id∈gm s,aq h id=aq h' id):Nh ti nx h s=Nh ti nx h' s:=by
 cases s with
 |os id=>grind [Nh,gm]|_=>rfl
def Qi {h h':List Ob}{s:SV}(h1:∀ id∈gm s++X9 h s,aq h id=aq h' id):E6 h s=E6 h' s:=by
 cases s with
 |ptr id off=>
  cases off with
  |zero=>
   have e:=h1 id (by simp[gm]);simp[E6];rw[<-e];cases O:aq h id with
   |mi mid n left E=>
    cases mid with
    |none=>rfl
    |some mid=>
     cases E with
     |none=>rfl
     |some j=>
      grind [Uw,X9,X8]
   |_=>rfl
  |succ n=>rfl
 |_=>rfl
def S_ (ti:TI)(nx:Nat)(key:SV){s:SV}(E:∀ id∈gm s,aq h id=aq h' id):Cn ti nx h key s=Cn ti nx h' key s:=by
 cases s <;>first|rfl|simp_all [gm,Cn]
def Ta (ti:TI)(v:SV){s:SV}(n:SV)(E:∀ id∈gm s,aq h id=aq h' id):Ng ti h v s n=Ng ti h' v s n:=by
 cases n with
 |os x=>cases s <;>first|rfl|simp_all [gm,Ng]
 |_=>cases s <;>rfl
def Tb (ti te:TI)(l:List SV)(E:∀ id∈rJ l,aq h id=aq h' id):Bx ti te h l=Bx ti te h' l:=by
 match l with
 | [] =>rfl
 | [x] =>cases x <;>first|rfl|grind [Bx,rJ,Ni,gm]
 |x::_::_=>cases x <;>rfl
def Tc (ti:TI)(l:List SV)(E:∀ id∈rJ l,aq h id=aq h' id):By ti h l=By ti h' l:=by
 match l with
 | [] =>rfl| [x] =>cases x <;>rfl
 | [x,y] =>cases x <;>first|rfl|grind [By,rJ,Ni,gm]
 |x::_::_::_=>cases x <;>rfl
def Td (ti:TI)(l:List SV)(E:∀ id∈rJ l,aq h id=aq h' id):wL ti h l=wL ti h' l:=by
 match l with
 | [] =>rfl
 | [x] =>
  cases x <;>first|rfl|(rename_i y;cases y <;>first|rfl|(rename_i a n c;cases a <;>cases n <;>cases c <;>rfl)) |(simp only[rJ,Ni,gm,aqo,aq8,forall_eq]at E;simp only[wL,E])
 |x::_::_=>cases x <;>first|rfl|(rename_i y;cases y <;>first|rfl|(rename_i a n c;cases a <;>cases n <;>cases c <;>rfl))
theorem NJ (id:Nat)(r:List SV):id∈rJ (.os id::r):=by simp[rJ,Ni,gm]
theorem UO (x:SV)(z id:Nat)(r:List SV):id∈rJ (x:: .ls z [.os id]::r):=by simp[rJ,Ni]
theorem Yy (x:SV)(id:Nat)(r:List SV):id∈rJ (x:: .os id::r):=by simp[rJ,Ni,gm]
theorem Yz (x:SV)(s id:Nat)(lo hi:Int)(r:List SV):id∈rJ (x:: .vw s id lo hi::r):=by simp[rJ,Ni,gm]
def HP (k:Tag)(x s:SV)(r:List SV)(E:∀ id∈rJ (x::s::r),aq h id=aq h' id):w6 k h s=w6 k h' s:=by
 cases s with
 |os id=>grind [w6,Yy]|vw s id lo hi=>grind [w6,Yz]
 |v y=>cases y <;>first|rfl|(rename_i a n c;cases a <;>cases n <;>cases c <;>rfl)
 |_=>rfl
def Te (te:TI)(nx:Nat)(l:List SV)(O:∀ id∈rJ l,aq h id=aq h' id):nW te nx h l=nW te nx h' l:=by
 have W:∀ (E:List Up) (s x:SV) (o:Ob),(∀ id∈rJ [x,s],aq h id=aq h' id)->zc te nx E h s o=zc te nx E h' s o:=by
  intro E s x o O;cases o with
  |row k l=>simp[zc];rw[HP k x s [] O]|_=>rfl
 have V:∀ (id2:Nat) (E:List Up) (o:Ob),aq h id2=aq h' id2->Hb nx te.bytes h id2 E o=Hb nx te.bytes h' id2 E o:=by
  simp_all [Hb]
 have X:∀ (s x:SV) (o:Option Tag),(∀ id∈rJ [x,s],aq h id=aq h' id)->xS te nx h s o=xS te nx h' s o:=by
  intro s x o O;cases o with
  |none=>rfl|some k=>exact W [] s x (.row k []) O
 unfold nW;split
 rename_i id id2;rw[V id2 _ _ (O id2 (UO _ _ _ _)),O id (NJ _ _)];rename_i id2;rw[O id2 (UO _ _ _ _)];rename_i id id2;rw[W _ (.os id2) _ _ O,O id (NJ _ _)];rename_i id s _ _;rw[W _ s _ _ O,O id (NJ _ _)];rename_i s _;exact X s _ _ O;rename_i s;exact X s _ _ O;rename_i k l s;unfold ab4;rw[HP k _ s [] O];rfl
end
def vp {ts:Tis}{ops:List Oper}{g:Option (Nat×Bool)}{h h':List Ob}{nx nx':Nat}{t t':List (Nat×SV)}:∀ (l:List Operand),(∀ x∈l,raw t x=raw t' x)->dE ⟨ts,ops,g,⟨t,h⟩,nx⟩ l=dE ⟨ts,ops,g,⟨t',h'⟩,nx'⟩ l
 | [],_=>rfl
 |x::r,E=>by
  simp only[dE];rw[vp r λy hy=>E y (by simp[hy])];have:val ⟨ts,ops,g,⟨t,h⟩,nx⟩ x=val ⟨ts,ops,g,⟨t',h'⟩,nx'⟩ x:=by show bJ ops g (raw t x)=bJ ops g (raw t' x);rw[E x (by simp)]
  rw[this]
def wu {ts:Tis}{ops:List Oper}{g:Option (Nat×Bool)}{h h':List Ob}{nx nx':Nat}{t t':List (Nat×SV)}:∀ (l:List (Nat×Operand)),(∀ x∈l,raw t x.2=raw t' x.2)->j5 ⟨ts,ops,g,⟨t,h⟩,nx⟩ l=j5 ⟨ts,ops,g,⟨t',h'⟩,nx'⟩ l
 | [],_=>rfl
 |(i,x)::r,E=>by
  simp only[j5];rw[wu r λy hy=>E y (by simp[hy])];have:val ⟨ts,ops,g,⟨t,h⟩,nx⟩ x=val ⟨ts,ops,g,⟨t',h'⟩,nx'⟩ x:=by show bJ ops g (raw t x)=bJ ops g (raw t' x);rw[E (i,x) (by simp)]
  rw[this]
variable {ops:List Oper}{g:Option (Nat×Bool)}{h h':List Ob}{nx':Nat}{t t':List (Nat×SV)}
def vr{ts:Tis}{nx:Nat}(o:Option Operand)(E:∀ x∈o,raw t x=raw t' x):qA ⟨ts,ops,g,⟨t,h⟩,nx⟩ o=qA ⟨ts,ops,g,⟨t',h'⟩,nx'⟩ o:=by
 cases o with
 |none=>rfl
 |some x=>show some (bJ ops g (raw t x))=some (bJ ops g (raw t' x));rw[E x rfl]
theorem Ww{ts:Tis}{nx:Nat}(op:Op)(V:∀ x∈op.operands.toList,raw t x=raw t' x)
  (h1:∀ id∈(fpO ⟨ts,ops,g,⟨t,h⟩,nx⟩ op).1,aq h id=aq h' id) (h2:∀ id∈(fpO ⟨ts,ops,g,⟨t,h⟩,nx⟩ op).2,auK (aq h id) (aq h' id)):
  opS ⟨ts,ops,g,⟨t,h⟩,nx⟩ op=opS ⟨ts,ops,g,⟨t',h'⟩,nx⟩ op:=by
 have E:∀ x∈op.operands.toList,val ⟨ts,ops,g,⟨t',h'⟩,nx⟩ x=val ⟨ts,ops,g,⟨t,h⟩,nx⟩ x:=λx Y=>by
  show bJ ops g (raw t' x)=bJ ops g (raw t x);rw[V x Y]
 cases op with
 |call c=>
  have⟨callee,args,tys⟩:=c;have W:dE ⟨ts,ops,g,⟨t',h'⟩,nx⟩ args.toList=dE ⟨ts,ops,g,⟨t,h⟩,nx⟩ args.toList:=(vp _ λx Y=>V x (by grind [Op.operands,Call.operands])).symm;cases callee with
  |value f=>
   have hf:=E f (by simp[Op.operands,Call.operands]);show Cl _ _=Cl _ _;rw[W,hf]
  |invoke f m=>rfl
  |builtin b=>
   cases b <;>first|rfl|skip
   show(match tys.toList with| [t1,t2] =>aR ts t1 λti=>aR ts t2 λX=>aR ts ti.elem λte=>bif ti.isSlice&&X.isSlice then nW te nx h (dE ⟨ts,ops,g,⟨t,h⟩,nx⟩ args.toList)else .bad|_=>.bad)=(match tys.toList with| [t1,t2] =>aR ts t1 λti=>aR ts t2 λX=>aR ts ti.elem λte=>bif ti.isSlice&&X.isSlice then nW te nx h' (dE ⟨ts,ops,g,⟨t',h'⟩,nx⟩ args.toList)else .bad|_=>.bad);rw[W];have e:∀ te:TI,nW te nx h (dE ⟨ts,ops,g,⟨t,h⟩,nx⟩ args.toList)=nW te nx h' (dE ⟨ts,ops,g,⟨t,h⟩,nx⟩ args.toList):=λte=>Te te nx _ h1;simp[e];show(match tys.toList with| [t1] =>aR ts t1 λti=>aR ts ti.elem λte=>Bx ti te h (dE ⟨ts,ops,g,⟨t,h⟩,nx⟩ args.toList) |_=>.bad)=(match tys.toList with| [t1] =>aR ts t1 λti=>aR ts ti.elem λte=>Bx ti te h' (dE ⟨ts,ops,g,⟨t',h'⟩,nx⟩ args.toList) |_=>.bad);rw[W];have e:∀ ti te:TI,Bx ti te h (dE ⟨ts,ops,g,⟨t,h⟩,nx⟩ args.toList)=Bx ti te h' (dE ⟨ts,ops,g,⟨t,h⟩,nx⟩ args.toList):=λti te=>Tb ti te _ h1;simp[e];show(match tys.toList with|t1::_=>aR ts t1 λti=>By ti h (dE ⟨ts,ops,g,⟨t,h⟩,nx⟩ args.toList) |_=>.bad)=(match tys.toList with|t1::_=>aR ts t1 λti=>By ti h' (dE ⟨ts,ops,g,⟨t',h'⟩,nx⟩ args.toList) |_=>.bad);rw[W];have e:∀ ti:TI,By ti h (dE ⟨ts,ops,g,⟨t,h⟩,nx⟩ args.toList)=By ti h' (dE ⟨ts,ops,g,⟨t,h⟩,nx⟩ args.toList):=λti=>Tc ti _ h1;simp[e];show(match tys.toList with| [t''] =>aR ts t'' λti=>wL ti h (dE ⟨ts,ops,g,⟨t,h⟩,nx⟩ args.toList) |_=>.bad)=(match tys.toList with| [t''] =>aR ts t'' λti=>wL ti h' (dE ⟨ts,ops,g,⟨t',h'⟩,nx⟩ args.toList) |_=>.bad);rw[W];have e:∀ ti:TI,wL ti h (dE ⟨ts,ops,g,⟨t,h⟩,nx⟩ args.toList)=wL ti h' (dE ⟨ts,ops,g,⟨t,h⟩,nx⟩ args.toList):=λti=>Td ti _ h1;simp[e];show Nd _=Nd _;rw[W];show Nc _=Nc _;rw[W]
 |build ty O=>
  have W:j5 ⟨ts,ops,g,⟨t',h'⟩,nx⟩ O.toList=j5 ⟨ts,ops,g,⟨t,h⟩,nx⟩ O.toList:=(wu _ λx Y=>V x.2 (by grind [Op.operands])).symm;grind [opS]
 |buildSlice ty n O=>
  have W:j5 ⟨ts,ops,g,⟨t',h'⟩,nx⟩ O.toList=j5 ⟨ts,ops,g,⟨t,h⟩,nx⟩ O.toList:=(wu _ λx Y=>V x.2 (by grind [Op.operands])).symm;grind [opS]
 |makeFunc fn first caps=>
  have W:dE ⟨ts,ops,g,⟨t',h'⟩,nx⟩ caps.toList=dE ⟨ts,ops,g,⟨t,h⟩,nx⟩ caps.toList:=(vp _ λx Y=>V x (by grind [Op.operands])).symm;have hb:dE ⟨ts,ops,g,⟨t',h'⟩,nx⟩ first.toList=dE ⟨ts,ops,g,⟨t,h⟩,nx⟩ first.toList:=(vp _ λx Y=>V x (by grind [Op.operands])).symm
  grind [opS]
 |pick c x y=>
  grind [Op.operands,opS]
 |move x=>grind [opS,Op.operands]|assign x=>grind [opS,Op.operands]|box ty x=>grind [opS,Op.operands]
 |load ty x=>
  simp[opS,E x (by simp[Op.operands])];exact congrArg _ (funext λti=>Qg ti h1)
 |store ty x y=>
  simp[opS,E x (by simp[Op.operands]),E y (by simp[Op.operands])];exact congrArg _ (funext λti=>NG _ _ h1)
 |nilCheck x=>grind [opS,Op.operands]|binOp op xt x y yt=>grind [opS,Op.operands]|unOp op xt x=>grind [opS,Op.operands]|convert a b x=>grind [opS,Op.operands]|panic x=>grind [opS,Op.operands]|makeInterface ty x=>grind [opS,Op.operands]|typeAssert x st ty ok=>grind [opS,Op.operands]|fieldAddr ty x f=>grind [opS,Op.operands]|field ty x f=>grind [opS,Op.operands]
 |indexAddr ty x y=>
  simp[opS,E x (by simp[Op.operands]),E y (by simp[Op.operands])];exact congrArg _ (funext λti=>congrArg _ (funext λte=>NH _ _ _ h1))
 |extract x i=>grind [opS,Op.operands]|makeSlice ty n c=>grind [opS,Op.operands]
 |slice ty x lo hi mx=>
  cases mx with
  |some m=>
   have e1:qA ⟨ts,ops,g,⟨t',h'⟩,nx⟩ lo=qA ⟨ts,ops,g,⟨t,h⟩,nx⟩ lo:=(vr lo λy hy=>V y (by simp_all [Op.operands])).symm;have e2:qA ⟨ts,ops,g,⟨t',h'⟩,nx⟩ hi=qA ⟨ts,ops,g,⟨t,h⟩,nx⟩ hi:=(vr hi λy hy=>V y (by simp_all [Op.operands])).symm;grind [opS,Op.operands]
  |none=>
   have e1:qA ⟨ts,ops,g,⟨t',h'⟩,nx⟩ lo=qA ⟨ts,ops,g,⟨t,h⟩,nx⟩ lo:=(vr lo λy hy=>V y (by simp_all [Op.operands])).symm;have e2:qA ⟨ts,ops,g,⟨t',h'⟩,nx⟩ hi=qA ⟨ts,ops,g,⟨t,h⟩,nx⟩ hi:=(vr hi λy hy=>V y (by simp_all [Op.operands])).symm;simp[opS,E x (by simp[Op.operands]),e1,e2];exact congrArg _ (funext λti=>congrArg _ (funext λte=>NI _ _ _ _ _ _ h1))
 |makeMap ty n=>cases n <;>rfl
 |lookup ty m k ok=>
  simp[opS,E m (by simp[Op.operands]),E k (by simp[Op.operands])];refine congrArg _ (funext λti=>?_);cases ok with
  |true=>exact Qh ti _ _ h1|false=>exact S8 ti _ h2
 |mapUpdate ty m k v=>
  simp[opS,E m (by simp[Op.operands]),E k (by simp[Op.operands]),E v (by simp[Op.operands])];exact congrArg _ (funext λti=>HO ti _ _ h1)
 |insert ty m k v=>
  simp[opS,E m (by simp[Op.operands]),E k (by simp[Op.operands]),E v (by simp[Op.operands])];exact congrArg _ (funext λti=>HO ti _ _ h1)
 |mapEntry ty m k=>
  simp[opS,E m (by simp[Op.operands]),E k (by simp[Op.operands])];exact congrArg _ (funext λti=>S_ ti _ _ h1)
 |entryStore ty m s v=>
  simp[opS,E m (by simp[Op.operands]),E s (by simp[Op.operands]),E v (by simp[Op.operands])];exact congrArg _ (funext λti=>Ta ti _ _ h1)
 |range ty x=>
  simp[opS,E x (by simp[Op.operands])];exact congrArg _ (funext λti=>S9 ti nx h1)
 |next it isS=>cases isS <;>simp only[opS,E it (by simp[Op.operands])]
 |entry it=>
  simp[opS,E it (by simp[Op.operands])];exact Qi h1
 |_=>rfl
structure DOk (ops:List Oper):Prop where
 back:∀ (i:Nat) (o:Oper) (e:Edge),ops[i]? =some o->e∈o.after->Region.binds .any e=true->e.on<i
 uniq:∀ (i k:Nat) (o q:Oper) (d:Nat),ops[i]? =some o->ops[k]? =some q->o.dst=some d->q.dst=some d->i=k
 look:∀ (i k:Nat) (o q:Oper) (d:Nat),ops[i]? =some o->ops[k]? =some q->q.dst=some d->d∈o.looksAt ops.toArray->k=i\/(k<i/\rM o k=true)\/(i<k/\rM q i=true)
theorem afE(h:SG ops.toArray=true):DOk ops:=by
 have h':∀ (i:Nat) (o:Oper),ops[i]? =some o->(o.after.toList.all λe=>!(Region.binds .any e) ||Nat.blt e.on i)=true/\
   ∀ (k:Nat) (q:Oper),ops[k]? =some q->∀ d,q.dst=some d->(Nat.beq k i|| !(o.dst==some d))=true/\(!((o.looksAt ops.toArray).contains d) ||Nat.beq k i||(Nat.blt k i&&rM o k) ||(Nat.blt i k&&rM q i))=true:=by
  intro i o E;unfold SG at h;rw[aqU]at h;have:=h i XN;simp[gW]at this;grind
 refine⟨λi o e E W X=>?_,λi k o q d E V hd O=>?_,λi k o q d E V hd Y=>?_⟩;have:=(h' i o E).1;rw[aqU]at this;have:=this e XN;simp_all;have:=((h' i o E).2 k q V d O).1;simp_all;have:=((h' i o E).2 k q V d hd).2;simp[aqG]at this;rcases this with(h1|h1) |h1 <;>simp_all
theorem afF{ts:Tis}{st:St}{nx:Nat}{op:Op}{r:OR}(h:opS ⟨ts,ops,g,st,nx⟩ op=r)(hn:∀ c a ups s,r=.eff c a ups s->nx ∉ fA ups):opS ⟨ts,ops,g,st,nx'⟩ op=r:=by
 have hv:∀ x,val ⟨ts,ops,g,st,nx'⟩ x=val ⟨ts,ops,g,st,nx⟩ x:=λx=>rfl;have W:∀ l,dE ⟨ts,ops,g,st,nx'⟩ l=dE ⟨ts,ops,g,st,nx⟩ l:=λl=>vp l λ_ _=>rfl;have hps:∀ l,j5 ⟨ts,ops,g,st,nx'⟩ l=j5 ⟨ts,ops,g,st,nx⟩ l:=λl=>wu l λ_ _=>rfl;have hvo:∀ o,qA ⟨ts,ops,g,st,nx'⟩ o=qA ⟨ts,ops,g,st,nx⟩ o:=λo=>vr o λ_ _=>rfl;have O:∀ (t:TypeId) (k k':TI->OR),aR ts t k=r->(∀ ti,k ti=r->k' ti=r)->aR ts t k'=r:=by
  grind [aR]
 have hNew:∀ l,Nb nx l=r->Nb nx' l=r:=by
  intro l e;cases l with
  |none=>exact e
  |some l=>exact absurd (by simp[fA]) (hn _ _ _ _ e.symm)
 cases op with
 |alloc t=>exact O _ _ _ h λti e=>hNew _ e
 |box t x=>exact hNew _ h
 |store t x y=>
  refine O _ _ _ h λti e=>?_;change u9 ti.size nx' st.h (val ⟨ts,ops,g,st,nx⟩ x) (val ⟨ts,ops,g,st,nx⟩ y)=r;unfold u9 at e |-;split at e
  rename_i sz id i off rid _ _;cases hg:Na (aq st.h id)with
  |false=>grind
  |true=>
   rw[hg]at e;cases hc:Nat.beq ti.size 1&&Nat.beq sz 1&&Nat.beq off 0&& !(Nat.beq id rid)with
   |false=>grind
   |true=>
    rw[hc]at e;cases ho:aq st.h id with
    |atH k l=>
     rw[ho]at e;simp[G_]at e |-;cases hr:G9 k (aq st.h rid)with
     |none=>rw[hr]at e;exact e
     |some m=>rw[hr]at e;exact absurd (by simp[fA]) (hn _ _ _ _ e.symm)
    |_=>rw[ho]at e;exact e
  exact e
 |makeSlice t n c=>
  refine O _ _ _ h λti e=>O _ _ _ e λte e=>?_;cases Y:ti.isSlice with
  |false=>grind
  |true=>
   rw[Y]at e;cases hb2:te.isSlice with
   |true=>
    rw[hb2]at e;refine O _ _ _ e λtr e=>?_;change Nf nx' te tr (val ⟨ts,ops,g,st,nx⟩ n) (val ⟨ts,ops,g,st,nx⟩ c)=r;unfold Nf at e |-;split at e
    cases ht:tr.tag with
    |none=>rw[ht]at e;exact e
    |some k=>
     grind [ab6,fA]
    exact e
   |false=>
   rw[hb2]at e;change mkS nx' te (val ⟨ts,ops,g,st,nx⟩ n) (val ⟨ts,ops,g,st,nx⟩ c)=r;unfold mkS at e |-;split at e
   cases ht:te.tag with
   |none=>rw[ht]at e;exact e
   |some k=>rw[ht]at e;exact absurd (by simp[fA]) (hn _ _ _ _ e.symm)
   exact e
 |slice t x lo hi m=>
  cases m with
  |some m=>
   refine O _ _ _ h λti e=>O _ _ _ e λte e=>?_;grind
  |none=>
   refine O _ _ _ h λti e=>O _ _ _ e λte e=>?_;change px ti te.size nx' st.h _ _ _ (val ⟨ts,ops,g,st,nx⟩ x)=r;unfold px at e |-;split at e
   exact e
   ·cases Y:ti.isSlice with
    |false=>grind
    |true=>
     rw[Y]at e;cases hv:(LI hi&&PA ops)with
     |true=>grind
     |false=>
     rw[hv]at e;unfold ab9 at e |-;split at e
     rename_i k l _;cases Y:Nat.beq te.size (ae k)with
     |false=>grind
     |true=>
      unfold ab8 at e |-;grind [fA]
     exact e
   exact e
 |makeMap t n=>
  cases n with
  |some n=>exact h
  |none=>
   refine O _ _ _ h λti e=>?_;unfold mmR at e |-;grind [fA]
 |call c=>
  have⟨callee,args,tys⟩:=c;cases callee with
  |value f=>rw[<-h];show Cl _ _=Cl _ _;rw[W];rfl
  |invoke f m=>exact h
  |builtin b=>
   cases b <;>first|exact h|skip
   ·change (match tys.toList with| [t1,t2] =>aR ts t1 λti=>aR ts t2 λX=>aR ts ti.elem λte=>bif ti.isSlice&&X.isSlice then nW te nx st.h (dE ⟨ts,ops,g,st,nx⟩ args.toList)else .bad|_=>.bad)=r at h;show(match tys.toList with| [t1,t2] =>aR ts t1 λti=>aR ts t2 λX=>aR ts ti.elem λte=>bif ti.isSlice&&X.isSlice then nW te nx' st.h (dE ⟨ts,ops,g,st,nx'⟩ args.toList)else .bad|_=>.bad)=r;rw[W];split at h
    ·refine O _ _ _ h λti e=>O _ _ _ e λX e=>O _ _ _ e λte e=>?_;cases Y:ti.isSlice&&X.isSlice with
     |false=>grind
     |true=>
      rw[Y]at e;have hR:∀ k b E l m,ab2 k nx b E l m=r->ab2 k nx' b E l m=r:=by
       intro k b E l m e;cases m with
       |none=>exact e
       |some m=>exact absurd (by grind [L2,fA]) (hn _ _ _ _ e.symm)
      have hGs:∀ k b id2 E l m,PD k nx b id2 E l m=r->PD k nx' b id2 E l m=r:=by
       intro k b id2 E l m e;cases m with
       |none=>exact e
       |some m=>exact absurd (by grind [L2,fA]) (hn _ _ _ _ e.symm)
      have hO:∀ E V o,zc te nx E st.h V o=r->zc te nx' E st.h V o=r:=by
       intro E V o e;cases o with
       |row k l=>
        grind [zc]
       |_=>exact e
      have hT2:∀ V o,xS te nx st.h V o=r->xS te nx' st.h V o=r:=by
       intro V o e;cases o with
       |none=>exact e|some k=>exact hO [] V (.row k []) e
      generalize dE ⟨ts,ops,g,st,nx⟩ args.toList=l at e |-;unfold nW at e |-;split at e
      rename_i id id2;cases Y:Nat.beq te.size 1&&Nat.beq (sz te.zero) 1&&Nat.ble 1 te.bytes&& !(Nat.beq id id2)with
      |false=>
       grind
      |true=>
       unfold Hb at e |-;grind
      cases Y:Nat.beq te.size 1&&Nat.beq (sz te.zero) 1&&Nat.ble 1 te.bytes with
      |false=>grind
      |true=>
       unfold afp at e |-;grind
      grind
      grind
      grind
      grind
      exact e;exact e
    exact h
   rw[<-h];show(match tys.toList with| [t1] =>aR ts t1 λti=>aR ts ti.elem λte=>Bx ti te st.h (dE ⟨ts,ops,g,st,nx'⟩ args.toList) |_=>.bad)=(match tys.toList with| [t1] =>aR ts t1 λti=>aR ts ti.elem λte=>Bx ti te st.h (dE ⟨ts,ops,g,st,nx⟩ args.toList) |_=>.bad);rw[W];rw[<-h];show(match tys.toList with|t1::_=>aR ts t1 λti=>By ti st.h (dE ⟨ts,ops,g,st,nx'⟩ args.toList) |_=>.bad)=(match tys.toList with|t1::_=>aR ts t1 λti=>By ti st.h (dE ⟨ts,ops,g,st,nx⟩ args.toList) |_=>.bad);rw[W];rw[<-h];show(match tys.toList with| [t''] =>aR ts t'' λti=>wL ti st.h (dE ⟨ts,ops,g,st,nx'⟩ args.toList) |_=>.bad)=(match tys.toList with| [t''] =>aR ts t'' λti=>wL ti st.h (dE ⟨ts,ops,g,st,nx⟩ args.toList) |_=>.bad);rw[W];rw[<-h];show Nd _=Nd _;rw[W];rw[<-h];show Nc _=Nc _;rw[W]
 |build ty parts=>grind [opS]
 |buildSlice ty n parts=>
  refine O _ _ _ h λti e=>O _ _ _ e λte e=>?_;unfold PB at e |-;grind [fA]
 |makeFunc fn first caps=>grind [opS]
 |range ty x=>
  refine O _ _ _ h λti e=>?_;rw[hv];generalize val ⟨ts,ops,g,st,nx⟩ x=s at e |-;cases s with
  |os id=>
   simp[Nh]at e |-;cases ho:aq st.h id with
   |mp kk vk l aui=>
    grind [ab_,fA]
   |_=>rw[ho]at e;exact e
  |_=>exact e
 |mapEntry ty m k=>
  refine O _ _ _ h λti e=>?_;rw[hv,hv];generalize val ⟨ts,ops,g,st,nx⟩ m=s at e |-;cases s with
  |os id=>
   simp[Cn]at e |-;cases ho:aq st.h id with
   |mp kk vk l aui=>
    simp[V6]at e |-;cases Y:mQ kk ti.mkt&&mQ vk ti.mvt&&noE aui with
    |false=>grind
    |true=>
     unfold V5 at e |-;grind [fA]
   |_=>rw[ho]at e;exact e
  |_=>exact e
 |next it isS=>cases isS <;>exact h|entry it=>exact h|_=>exact h
end Go.Sx
end
