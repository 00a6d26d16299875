/- Part of the proof that the law JudgementSitSpec returns true and leaves its arguments as they were, for all arguments of bulk at most 1048576 (the Upto form). -/
import Derived.Test.YtnanafpgfihjfaaGreatJ613
import Derived.Test.YtnanafpgfihjfaaGreatJ607
import Derived.Deep.Slices
import Derived.OpenShut
import Derived.Test.YtnanafpgfihjfaaGreatJ608
import Derived.ChangeSame
import Derived.WideKeyArgs
import Derived.Below
import Derived.Test.YtnanafpgfihjfaaGreatRows
set_option linter.all false
set_option maxHeartbeats 4000000
set_option maxRecDepth 100000
section
namespace Go.Sx
open Go.Proofs
theorem Jt (l:List Int):kY l l=true:=by
 unfold kY;rw[bne_self_eq_false];simp only[cond_false];rw[Ac fun j _ _=>by unfold qT;rw[bne_self_eq_false];rfl]
theorem Da (l:List Int):nF l l:=fun _ _ _=>j4 _ _ _ fun j _ _ hj _=>⟨by omega,by omega⟩
theorem S4 (c:Case):kH c c=true:=by
 unfold kH;rw[Jt,Jt];simp
theorem K9 (c:Case):kI c c:=⟨fun _=>Da _,fun _=>Da _⟩
theorem Z5 (b:Cases):jm b b=true:=by
 unfold jm;rw[bne_self_eq_false,Jt];simp only[Bool.not_true,Bool.or_self,cond_false];rw[Ac fun j _ _=>by unfold lu;rw[S4];rfl]
theorem RX (b:Cases):mu b b:=fun _ _=>⟨fun _=>Da _,fun _=>j4 _ _ _ fun j _ _ hj _=>⟨⟨by omega,by omega⟩,K9 _⟩⟩
theorem Pf (sides:List Int)(l:List Suit)(hl:∀ s∈l,s.facts.length<4611686018427387904):∀ (n i:Nat) (cs:List Case),SmC cs->i+n<=l.length->
  okI (gS sides l) (nt sides l) n i cs/\aq (dA sides l) n i cs=aq (gS sides l) n i cs
 |0,_,_,_,_=>⟨trivial,rfl⟩
 |n+1,i,cs,hf,hn=>by
  have hi:i<l.length:=by omega
  have hm:l.getD i default∈l:=by rw[List.getD_eq_getElem?_getD,List.getElem?_eq_getElem hi];exact List.getElem_mem hi
  have hs:=hl _ hm;have hd:=C6 (b:= { sides:=sides,cases:=cs}) hf hs;obtain⟨_,d2⟩:=Ag { sides:=sides,cases:=cs} (l.getD i default);rw[hd]at d2;have e:dA sides l i cs=gS sides l i cs:=by
   unfold dA gS;rw[U4,hd];rfl
  have hp:nt sides l i cs:=fun _=>⟨C5 (b:= { sides:=sides,cases:=cs}) hf hs,fun h=>by
   have hc:cs.length<=64:=(d2 (by simpa using h)).1.rd.c;refine⟨by rw[List.nil_append];unfold ez;omega,fun _=>?_⟩;rw[List.nil_append,List.length_append,List.length_singleton];unfold ez;omega⟩
  have next:∀ cs',gS sides l i cs=.inr cs'->SmC cs':=fun cs' h=>by
   unfold gS at h;cases h1:(gk { sides:=sides,cases:=cs} (l.getD i default)).2 !=0 with
   |true=>rw[h1]at h;cases h
   |false=>
    rw[h1]at h;simp only[cond_false]at h;obtain⟨_,dc⟩:=d2 (by simpa using h1);cases h2:decide ((((([]:List Case)++cs)++[(gk { sides:=sides,cases:=cs} (l.getD i default)).1]).length:Int) > 64)with
    |true=>rw[h2]at h;cases h
    |false=>
     rw[h2]at h;simp only[cond_false,Sum.inr.injEq]at h;subst h;intro x hx;rw[List.nil_append]at hx;rcases List.mem_append.1 hx with hx|hx
     ·exact hf x hx
     ·rw[List.mem_singleton.1 hx,dc];refine⟨hs,?_⟩;show((l.getD i default).facts.filter _).length<_;exact Nat.lt_of_le_of_lt (List.length_filter_le _ _) hs
  refine⟨⟨hp,fun cs' h=>(Pf sides l hl n (i+1) cs' (next cs' h) (by omega)).1⟩,?_⟩;simp only[aq,e];cases h:gS sides l i cs with
  |inl x=>rfl
  |inr cs'=>exact(Pf sides l hl n (i+1) cs' (next cs' h) (by omega)).2
theorem S5 (b:Cases)(l:List Suit)(hf:SmC b.cases)(hl:∀ s∈l,s.facts.length<4611686018427387904):uh b l/\d7 b l=o_ b l:=by
 obtain⟨s1,s2⟩:=Pf b.sides l hl l.length 0 b.cases hf (by omega);refine⟨⟨Ak b,fun _=>s1⟩,?_⟩;unfold d7 o_;rw[FO b hf,s2];rfl
theorem Z6 {b:Cases}{l:List Suit}(h:iZ b l=true):SmC b.cases/\∀ s∈l,s.facts.length<4611686018427387904:=by
 unfold iZ at h;cases h1:(!(u3 b)) ||(decide ((l.length:Int) > 6))with
 |true=>rw[h1]at h;cases h
 |false=>
  rw[h1]at h;simp only[cond_false]at h;rw[Bool.or_eq_false_iff,Bool.not_eq_false']at h1;have h2:=h1.1;constructor
  ·intro x hx;unfold u3 at h2;cases h3:(decide ((b.cases.length:Int) > 100)) ||(decide ((b.sides.length:Int) > 100))with
   |true=>rw[h3]at h2;cases h2
   |false=>
    rw[h3]at h2;simp only[cond_false]at h2;cases hr:aq (sF b) b.cases.length 0 ()with
    |inl y=>rw[hr]at h2;cases h2
    |inr s=>
     obtain⟨j,hj,rfl⟩:=List.getElem_of_mem hx;have:=yu hr j (Nat.zero_le _) (by omega);unfold sF at this;rw[Fk b.cases default hj]at this;rw[uy,Bool.or_eq_false_iff,decide_eq_false_iff_not,decide_eq_false_iff_not]at this;omega
  ·intro x hx;cases hr:aq (mv l) l.length 0 ()with
   |inl y=>rw[hr]at h;cases h
   |inr s=>
    obtain⟨j,hj,rfl⟩:=List.getElem_of_mem hx;have:=yu hr j (Nat.zero_le _) (by omega);unfold mv at this;rw[Fk l default hj]at this;rw[uy,Bool.or_eq_false_iff,decide_eq_false_iff_not]at this;omega
theorem HT (b:Cases)(l:List Suit):fm b l/\eM b l=true:=by
 have hz:((l.length:Int) ==0)=false->l.getD 0 default∈l:=fun h=>by
  have h:¬ (l.length:Int)=0:=by simpa using h
  have hi:0<l.length:=by omega
  rw[List.getD_eq_getElem?_getD,List.getElem?_eq_getElem hi];exact List.getElem_mem hi
 have hz0:((l.length:Int) ==0)=false->(0:Int)<=0/\(0:Int) < (l.length:Int):=fun h=>by
  have h:¬ (l.length:Int)=0:=by simpa using h
  omega
 constructor
 ·refine⟨Pe,fun _ hfw=>?_⟩;rw[Bool.not_eq_false']at hfw;obtain⟨hf,hl⟩:=Z6 hfw;obtain⟨p1,e⟩:=S5 b l hf hl;refine⟨(U8 b l).1,p1,?_,fun _ _ h0=>⟨⟨Nat.le_refl 0,(hz0 h0).2⟩,(Ag _ _).1,⟨Nat.le_refl 0,(hz0 h0).2⟩,C5 hf (hl _ (hz h0)),?_⟩⟩
  ·rw[e];exact RX _
  ·rw[C6 hf (hl _ (hz h0))];exact K9 _
 ·unfold eM;rw[Vm];simp only[Bool.not_true,cond_false];cases hfw:iZ b l with
  |false=>rfl
  |true=>
   obtain⟨hf,hl⟩:=Z6 hfw;rw[(S5 b l hf hl).2,Z5,bne_self_eq_false];simp only[Bool.not_true,Bool.or_self,cond_false];cases h0:(l.length:Int) ==0 with
   |true=>rfl
   |false=>
    simp only[cond_false];rw[C6 hf (hl _ (hz h0)),S4];simp
theorem Vq (b:Cases)(l:List Suit):fm b l:=(HT b l).1
theorem Vr (b:Cases)(l:List Suit):eM b l=true:=(HT b l).2
end Go.Sx
end
section
namespace Go.Sx
open Go.Deep Go.RowKit
section
variable {F:Nat->Prop}{own:Own}{w:World}
def RC (F:Nat->Prop)(own:Own)(w:World)(ks:List Kd)(cs:List Value):Prop:=
 ∃ l:List SV,uv ks l=true/\l.length=cs.length/\∀ (j:Nat) (s:SV) (v:Value),l[j]? =some s->cs[j]? =some v->Rel F own w s v
theorem HU:∀ {a b:List Kd} {l m:List SV},uv a l=true->uv b m=true->uv (a++b) (l++m)=true
 | [],b,l,m,h1,h2=>by rw[uE h1];exact h2
 |k::a,b,l,m,h1,h2=>by
  obtain⟨x,r,rfl,e1,e2⟩:=qu h1;simp only[List.cons_append,uv,e1,HU e2 h2,Bool.and_self]
theorem RC.nil:RC F own w [] []:=⟨[],rfl,rfl,fun j s v h=>by cases h⟩
theorem RC.app {a b:List Kd}{c d:List Value}(h1:RC F own w a c)(h2:RC F own w b d):RC F own w (a++b) (c++d):=by
 obtain⟨l,f1,n1,r1⟩:=h1;obtain⟨m,f2,n2,r2⟩:=h2;refine⟨l++m,HU f1 f2,by simp[n1,n2],fun j s v hs hv=>?_⟩;by_cases hj:j<l.length
 ·rw[List.getElem?_append_left hj]at hs;rw[List.getElem?_append_left (by omega)]at hv;exact r1 j s v hs hv
 ·rw[List.getElem?_append_right (by omega)]at hs;rw[List.getElem?_append_right (by omega),<-n1]at hv;exact r2 _ s v hs hv
theorem RC.one {k:Kd}{s:SV}{v:Value}(h1:fit k s=true)(h2:Rel F own w s v):RC F own w [k] [v]:=
 ⟨[s],by simp[uv,h1],rfl,fun j s' v' hs hv=>by
  cases j with
  |zero=>simp only[List.getElem?_cons_zero,Option.some.injEq]at hs hv;subst hs;subst hv;exact h2
  |succ j=>simp at hs⟩
end
def Vs:Kd->Kd->Bool
 | .s,.s=>true
 | .b,.b=>true
 | .n a,.n b=>decide (a=b)
 | .r a,.r b=>decide (a=b)
 | .m a c,.m b d=>decide (a=b)&&decide (c=d)
 |_,_=>false
theorem RY:∀ {a b:Kd},Vs a b=true->a=b:=by
 intro a b h;cases a <;>cases b <;>simp_all [Vs]
def Pg:List Kd->List Kd->Bool
 | [],[] =>true
 |a::l,b::m=>Vs a b&&Pg l m
 |_,_=>false
theorem K_:∀ {a b:List Kd},Pg a b=true->a=b
 | [],[],_=>rfl
 |a::l,b::m,h=>by
  simp only[Pg,Bool.and_eq_true]at h;rw[RY h.1,K_ h.2]
def Db (P:Program)(g:TypeId->Option (List Kd)):List Field->Nat->Nat->Option (List Kd)
 | [],off,tot=>bif Nat.beq off tot then some []else none
 |f::r,off,tot=>match g f.type with
  |some a=>bif Nat.beq f.offset off&&Nat.beq a.length (P.cellsOf f.type)then(Db P g r (off+a.length) tot).map (a++ ·)else none
  |none=>none
def Ju (a:List Kd):Nat->List Kd
 |0=>[]
 |n+1=>a++Ju a n
def Dc (P:Program):Nat->TypeId->Option (List Kd)
 |0,_=>none
 |n+1,t=>match P.underlying t with
  |some .bool=>some [.b]
  |some (.int k) =>some [.n k]
  |some .string=>some [.s]
  |some (.slice e) =>match FZ P e,Dc P n e with
   |some k,some ks=>bif Pg ks (d6 k)&&Nat.beq (P.cellsOf e) (ae k)&&Nat.ble 1 (ae k)then some [.r k]else none
   |_,_=>none
  |some (.struct fs) =>Db P (Dc P n) fs.toList 0 (P.cellsOf t)
  |some (.array m e) =>match Dc P n e with
   |some a=>bif Nat.beq a.length (P.cellsOf e)&&Nat.beq (P.cellsOf t) (m*a.length)then some (Ju a m)else none
   |none=>none
  |_=>none
section
variable {H:Type}{enc:TypeId×Value->H}{P:Program}{F:Nat->Prop}{own:Own}{w:World}{base:Nat}{spare:Nat->Bool}{held:Bool}{S:DataW H->Prop}
theorem La {g:TypeId->Option (List Kd)}(hg:∀ t ks,g t=some ks->∀ (fuel:Nat) (cs:List Value) (x:DataW H×List MemPlace),DataW.trod enc P w base spare held fuel t cs=some x->S x.1->RC F own w ks cs)
  (fuel:Nat) (cs:List Value):∀ (fs:List Field) (off:Nat) (ks:List Kd),Db P g fs off cs.length=some ks->(∀ f∈fs,∃ x,DataW.trod enc P w base spare held fuel f.type ((cs.drop f.offset).take (P.cellsOf f.type))=some x/\S x.1)->RC F own w ks (cs.drop off)
 | [],off,ks,h,_=>by
  unfold Db at h;cases hb:Nat.beq off cs.length with
  |false=>rw[hb]at h;cases h
  |true=>
   rw[hb]at h;have:off=cs.length:=Nat.eq_of_beq_eq_true hb;subst this;cases h;rw[List.drop_length];exact RC.nil
 |f::r,off,ks,h,hx=>by
  unfold Db at h;cases ha:g f.type with
  |none=>rw[ha]at h;cases h
  |some a=>
   rw[ha]at h;dsimp only at h;cases hb:Nat.beq f.offset off&&Nat.beq a.length (P.cellsOf f.type)with
   |false=>rw[hb]at h;cases h
   |true=>
    rw[hb]at h;simp only[cond_true,Option.map_eq_some_iff]at h;obtain⟨ks2,h2,rfl⟩:=h;rw[Bool.and_eq_true]at hb;have e1:f.offset=off:=Nat.eq_of_beq_eq_true hb.1;have e2:a.length=P.cellsOf f.type:=Nat.eq_of_beq_eq_true hb.2;obtain⟨x,hx1,hs1⟩:=hx f (by simp);have h3:=hg _ _ ha _ _ _ hx1 hs1;have h4:=La hg fuel cs r (off+a.length) ks2 h2 fun f hf=>hx f (by simp[hf]);have:=h3.app h4;rw[e1,<-e2]at this
    rwa[<-List.drop_drop,List.take_append_drop]at this
theorem Lb {e:TypeId}{a:List Kd}(ha:∀ (fuel:Nat) (cs:List Value) (x:DataW H×List MemPlace),DataW.trod enc P w base spare held fuel e cs=some x->S x.1->RC F own w a cs)
  (fuel:Nat):∀ (m:Nat) (cs:List Value),cs.length=m*a.length->(∀ i,i<m->∃ x,DataW.trod enc P w base spare held fuel e ((cs.drop (i*a.length)).take a.length)=some x/\S x.1)->RC F own w (Ju a m) cs
 |0,cs,h,_=>by
  have:cs=[]:=by simpa using h
  subst this;exact RC.nil
 |m+1,cs,h,hx=>by
  obtain⟨x,hx1,hs1⟩:=hx 0 (by omega);rw[Nat.zero_mul,List.drop_zero]at hx1;have h3:=ha _ _ _ hx1 hs1;have h4:=Lb ha fuel m (cs.drop a.length) (by rw[List.length_drop,h,Nat.succ_mul];omega) fun i hi=>by
   obtain⟨x,hx2,hs2⟩:=hx (i+1) (by omega);refine⟨x,?_,hs2⟩;rw[List.drop_drop]
   rwa[Nat.succ_mul,Nat.add_comm]at hx2
  have:=h3.app h4
  rwa[List.take_append_drop]at this
structure Small (S:DataW H->Prop):Prop where
 agg:∀ l,S (.agg l)->∀ d∈l,S d
 slice:∀ l m,S (.slice l m)->l.length<=aA/\∀ d∈l,S d
theorem tD (hS:Small S)(hown:∀ b,¬bM F own b):∀ (n:Nat) (t:TypeId) (ks:List Kd),Dc P n t=some ks->∀ (fuel:Nat) (cs:List Value) (x:DataW H×List MemPlace),DataW.trod enc P w base spare held fuel t cs=some x->S x.1->RC F own w ks cs
 |0,_,_,h,_,_,_,_,_=>by cases h
 |n+1,t,ks,h,fuel,cs,x,hx,hs=>by
  unfold Dc at h;split at h
  ·rename_i ht;cases h;obtain⟨b,rfl,rfl⟩:=DataW.trod_bool ht hx;exact RC.one (s:=.v (.bool b)) rfl (.v _)
  ·rename_i k ht;cases h;obtain⟨m,rfl,rfl,_⟩:=DataW.trod_int ht hx;exact RC.one (s:=.v (.int k m)) (by simp[fit]) (.v _)
  ·rename_i ht;cases h;obtain⟨b,rfl,rfl,_⟩:=DataW.trod_string ht hx;exact RC.one (s:=.v (.string b)) rfl (.v _)
  ·rename_i e ht;split at h
   ·rename_i k ks2 hk hks;cases hb:Pg ks2 (d6 k)&&Nat.beq (P.cellsOf e) (ae k)&&Nat.ble 1 (ae k)with
    |false=>rw[hb]at h;cases h
    |true=>
     rw[hb]at h;cases h;simp only[Bool.and_eq_true]at hb;have e1:=K_ hb.1.1;have e2:P.cellsOf e=ae k:=Nat.eq_of_beq_eq_true hb.1.2;have e3:1<=ae k:=nbl hb.2;subst e1;rcases open_slice ht hx with⟨rfl,rfl⟩ | ⟨a,len,cap,m,f2,D,Pl,rfl,hb1,hl,hm,hmm,rfl,hel⟩
     ·exact RC.one (s:=.rs k []) (by simp[fit]) .rs0
     ·have hlm:len<=m:=by subst hmm;split <;>omega
      obtain⟨hs1,hs2⟩:=hS.slice _ _ hs;simp only[List.length_map,List.length_range]at hs1;have helt:∀ i,i<len->∃ cs',cs'.length=ae k/\(∀ j v,cs'[j]? =some v->w.cell? ((a.add (i*ae k)).add j)=some v)/\RC F own w (d6 k) cs':=fun i hi=>by
       obtain⟨cs',h1,h2⟩:=hel i (by omega);have h3:=tD hS hown n e (d6 k) hks f2 cs' _ h2 (hs2 _ (List.mem_map_of_mem (List.mem_range.2 hi)));unfold World.cells? at h1;split at h1
       ·refine⟨cs',by rw[mapM_some_length h1,List.length_range,e2],fun j v hj=>?_,h3⟩;have hlt:j<P.cellsOf e:=by
         have:=(List.getElem?_eq_some_iff.1 hj).1
         rwa[mapM_some_length h1,List.length_range]at this
        have:=mapM_some_get h1 j j (by simp[hlt]);rw[e2]at this;rw[this,hj]
       ·cases h1
      by_cases h0:len=0
      ·subst h0;exact RC.one (s:=.rs k []) (by simp[fit]) .rs0
      ·have hsp:a.spot=none:=by
        obtain⟨cs',h1,h2,_⟩:=helt 0 (by omega);have:=h2 0 (cs'[0]'(by omega)) (by rw[List.getElem?_eq_getElem]);rw[Nat.zero_mul]at this;simp only[Addr.add,if_true]at this;unfold World.cell? at this;split at this
        ·cases hsp:a.spot with
         |none=>rfl
         |some q=>rw[hsp]at this;simp at this
        ·cases this
       obtain⟨ab,ao,asp⟩:=a;dsimp only at hsp;subst hsp
       haveI:Inhabited k.T:=⟨fS k⟩
       obtain⟨X,hX⟩:=choose_lt (p:=fun i (x:k.T) =>∀ (j:Nat) (s:SV),(cellsOf k x)[j]? =some s->∃ v,w.cell? ⟨ab,ao+i*ae k+j,none⟩=some v/\Rel F own w s v) (n:=len) fun i hi=>by
        obtain⟨cs',h1,h2,l,h3,h4,h5⟩:=helt i hi;refine⟨mkE k l,fun j s hj=>?_⟩;rw[rj (k:=k) (l:=l) (x:=mkE k l) (by unfold uw;rw[h3];rfl)]at hj;have hlt:j<cs'.length:=by
         have:=(List.getElem?_eq_some_iff.1 hj).1;omega
        refine⟨cs'[j],?_,h5 j s _ hj (List.getElem?_eq_getElem hlt)⟩;have:=h2 j cs'[j] (List.getElem?_eq_getElem hlt);have hadd:∀ p q,((⟨ab,ao,none⟩:Addr).add p).add q=⟨ab,ao+p+q,none⟩:=fun p q=>by
         unfold Addr.add;by_cases hp:p=0 <;>by_cases hq:q=0 <;>simp[hp,hq]
        rwa[hadd]at this
       have hL:((List.range len).map X).length=len:=by simp
       refine RC.one (s:=.rs k ((List.range len).map X)) (by simp[fit]) ?_;have hget:∀ (i:Nat) (x:k.T),((List.range len).map X)[i]? =some x->i<len/\x=X i:=fun i x hi=>by
        obtain⟨h1,h2⟩:=List.getElem?_eq_some_iff.1 hi;rw[hL]at h1;simp only[List.getElem_map,List.getElem_range]at h2;subst h2;exact⟨h1,rfl⟩
       have:=Rel.rs (F:=F) (own:=own) (w:=w) (k:=k) (l:=(List.range len).map X) (b:=ab) (o:=ao) (cap:=cap) (fun i j=>(w.cell? ⟨ab,ao+i*ae k+j,none⟩).getD undef) (by rw[hL];exact hl) (by rw[hL];exact hs1)
        (fun i x hi j s hj=>by
         obtain⟨h1,rfl⟩:=hget i x hi;obtain⟨v,h2,_⟩:=hX i h1 j s hj;exact⟨hown _,by rw[h2];rfl⟩)
        (fun i x hi j s hj=>by
         obtain⟨h1,rfl⟩:=hget i x hi;obtain⟨v,h2,h3⟩:=hX i h1 j s hj;rw[h2];exact h3)
       rwa[hL]at this
   ·cases h
  ·rename_i fs ht;obtain⟨xs,m,rfl,rfl,hl,hlen,hf⟩:=DataW.trod_struct ht hx;rw[<-hl]at h;have:=La (tD hS hown n) m cs fs.toList 0 ks h fun f hfm=>by
    obtain⟨i,hi,rfl⟩:=List.getElem_of_mem hfm;have hi':i<fs.size:=by simpa using hi
    have h1:=hf i fs[i] (by simp[hi']);rw[List.getElem?_eq_getElem (by omega)]at h1;refine⟨_,by simpa using h1,hS.agg _ hs _ (List.mem_map_of_mem (List.getElem_mem _))⟩
   simpa using this
  ·rename_i m e ht;split at h
   ·rename_i a ha;cases hb:Nat.beq a.length (P.cellsOf e)&&Nat.beq (P.cellsOf t) (m*a.length)with
    |false=>rw[hb]at h;cases h
    |true=>
     rw[hb]at h;cases h;rw[Bool.and_eq_true]at hb;have e1:a.length=P.cellsOf e:=Nat.eq_of_beq_eq_true hb.1;have e2:P.cellsOf t=m*a.length:=Nat.eq_of_beq_eq_true hb.2;obtain⟨xs,f2,rfl,rfl,hl,hlen,hf⟩:=DataW.trod_array ht hx;refine Lb (tD hS hown n e a ha) f2 m cs (by rw[hl,e2]) fun i hi=>?_;have h1:=hf i hi;rw[List.getElem?_eq_getElem (by omega),<-e1]at h1;exact⟨_,h1,hS.agg _ hs _ (List.mem_map_of_mem (List.getElem_mem _))⟩
   ·cases h
  ·cases h
end
end Go.Sx
end
section
namespace Go.Sx
open Go.Proofs
section
variable {F:Nat->Prop}{own:Own}{w:World}
theorem RZ {k:Tag}{cs:Array Value}(h:RC F own w (d6 k) cs.toList):∃ x:k.T,Rel F own w (.agg (cellsOf k x)) (.agg cs):=by
 obtain⟨l,h3,h4,h5⟩:=h;refine⟨mkE k l,?_⟩;rw[rj (k:=k) (l:=l) (x:=mkE k l) (by unfold uw;rw[h3];rfl)];refine .agg (by simpa using h4.symm) fun j s hj=>?_;have hlt:j<cs.size:=by
  have:=(List.getElem?_eq_some_iff.1 hj).1;simpa[h4]using this
 exact h5 j s _ hj (by simp[Array.getD,hlt])
theorem Vt {k:Tag}{v:Value}(h:RC F own w [.r k] [v]):∃ l:List k.T,Rel F own w (.rs k l) v:=by
 obtain⟨l,h3,h4,h5⟩:=h;obtain⟨x,r,rfl,h6,h7⟩:=qu h3;have h8:=h5 0 x v rfl rfl;cases x with
 |rs k' l'=>
  have:k=k':=by
   simp only[fit]at h6;exact uC h6
  subst this;exact⟨l',h8⟩
 |_=>simp[fit]at h6
end
end Go.Sx
end
section
namespace Go.Sx
open Go.ChangeShapes Go.RowKit Go.WideShapes
section
variable {H:Type}{enc:TypeId×Value->H}{P:Program}
def R2 (P:Program):List TypeId->Bool
 | [] =>true
 |t::r=>P.readableRec t&&Nat.blt t P.types.size&&R2 P r
theorem Eu (hl:laidOutB P=true){W W':World}(hg:Below W.heap.size W W'):∀ {ts:List TypeId} {vs:List Value} {ds:List (DataW H)} {ps:List MemPlace},R2 P ts=true->
  DataW.TrodAll enc P W 0 (fun _=>true) true ts vs ds ps->(∀ x∈ps,x.block<W.heap.size)->DataW.TrodAll enc P W' 0 (fun b=>decide (b<W.heap.size)) true ts vs ds ps
 | [],vs,ds,ps,_,h,_=>by
  obtain⟨rfl,rfl,rfl⟩:=trodAll_nil h;exact trodAll_mk0
 |t::ts,vs,ds,ps,hk,h,hlt=>by
  unfold R2 at hk;rw[Bool.and_eq_true,Bool.and_eq_true]at hk;obtain⟨v,vs',d,ds',p,q,rfl,rfl,rfl,h1,h2⟩:=trodAll_cons h;refine trodAll_cons_mk (WideElems.Trod_stays hl hk.1.1 (by simpa[Nat.blt_eq]using hk.1.2) h1 (fun x hx=>hg.same (hlt x (List.mem_append_left _ hx))) (fun x hx=>by simpa using hlt x (List.mem_append_left _ hx))) ?_;exact Eu hl hg hk.2 h2 fun x hx=>hlt x (List.mem_append_right _ hx)
theorem Ph (hl:laidOutB P=true){f:Func}{s:ChangeSpec}{W W':World}{args:Array Value}{ds gs:List (DataW H)}{before:List MemPlace}{t:TypeId}
  (hk:R2 P f.params.toList=true) (hW:DataW.Whole enc P f.params.toList s.vars false W args.toList ds gs before)
  (hr:f.resultTypes= #[t]) (ht:P.underlying t=some .bool) (hv:s.vars=[]) (h1:(s.fn H (ds++gs)).results=[.lit (.bool true)]) (h2:(s.fn H (ds++gs)).args=ds) (h3:(s.fn H (ds++gs)).vars=[])
  (hg:Below W.heap.size W W'):s.post enc P f false true false false W args (.bool true) W':=by
 have hlt:=hW.lt;have hW0:=hW;obtain⟨p,q,hA,hV,rfl,_,_⟩:=hW;rw[hv]at hV;obtain⟨rfl,rfl⟩:=trodVars_none hV;refine⟨ds,[],p++[],[],p,[],hW0,?_,?_,?_,?_,fun h=>by cases h⟩
 ·rw[h1,hr];exact trodAll_cons_mk (shut_bool ht _) trodAll_mk0
 ·rw[h2];exact Eu hl hg hk hA fun x hx=>hlt x (by simpa using hx)
 ·rw[h3,hv];rfl
 ·exact World.keptBut_mono (fun x hx=>⟨hx,.inr (.inl (by simpa using hx))⟩) (hg.frame (· ∈p++[]))
end
end Go.Sx
end
section
namespace Go.Proofs.YtnanafpgfihjfaaGreat.bulks
theorem one_le {H:Type}(d:DataW H):1<=Rows.uptoBulk d:=by
 cases d with
 |lit l=>cases l <;>simp[Rows.uptoBulk]
 |nil=>simp[Rows.uptoBulk]
 |ptr d=>simp[Rows.uptoBulk]
 |slice sa spare=>simp[Rows.uptoBulk]
 |agg parts=>simp[Rows.uptoBulk]
 |iface t d=>simp[Rows.uptoBulk]
 |map entries=>simp[Rows.uptoBulk]
 |held h=>simp[Rows.uptoBulk]
theorem part_le {H:Type}{d:DataW H}{l:List (DataW H)}(h:d∈l):Rows.uptoBulk d<=Rows.uptoBulkAll l:=by
 induction l with
 |nil=>cases h
 |cons x r ih=>
  simp only[Rows.uptoBulkAll];cases List.mem_cons.1 h with
  |inl e=>subst e;omega
  |inr e=>have:=ih e;omega
theorem append {H:Type}(l r:List (DataW H)):Rows.uptoBulkAll (l++r)=Rows.uptoBulkAll l+Rows.uptoBulkAll r:=by
 induction l with
 |nil=>simp[Rows.uptoBulkAll]
 |cons x l ih=>simp only[List.cons_append,Rows.uptoBulkAll,ih];omega
theorem length_le {H:Type}(l:List (DataW H)):l.length<=Rows.uptoBulkAll l:=by
 induction l with
 |nil=>simp[Rows.uptoBulkAll]
 |cons x r ih=>have:=one_le x;simp only[Rows.uptoBulkAll,List.length_cons];omega
theorem slice_le {H:Type}(sa spare:List (DataW H)):sa.length+spare.length+1<=Rows.uptoBulk (.slice sa spare):=by
 have h1:=length_le sa;have h2:=length_le spare;simp only[Rows.uptoBulk];omega
theorem slice_elems {H:Type}(sa spare:List (DataW H)):Rows.uptoBulkAll sa+1<=Rows.uptoBulk (.slice sa spare):=by
 simp only[Rows.uptoBulk];omega
theorem bound {H:Type}{l:List (DataW H)}(hk:Rows.uptoSmall H l=true):Rows.uptoBulkAll l<=1048576:=by
 simpa[Rows.uptoSmall]using hk
theorem room {n b:Nat}(hn:n<=2097152)(hb:b<=4096):(n+n / 4+192)*b<=281474976710656:=by
 have h:(n+n / 4+192)*b<=2621632*4096:=Nat.mul_le_mul (by omega) hb;omega
end Go.Proofs.YtnanafpgfihjfaaGreat.bulks
end
