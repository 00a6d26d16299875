/- Part of the proof of the law RefuseHoldsSpec (the Upto form). -/
import Derived.Deep.Slices
import Derived.OpenShut
import Derived.ChangeSame
import Derived.WideKeyArgs
import Derived.Test.YtaikmgjfkejlkaaGreatRows
import Derived.Test.YtaikmgjfkejlkaaGreatT115
set_option linter.all false
set_option maxHeartbeats 4000000
set_option maxRecDepth 100000
section
namespace Go.Sx
open Go.Deep Go.RowKit
section
variable {F:Nat->Prop}{own:Own}{w:World}
def RC (F:Nat->Prop)(own:Own)(w:World)(ks:List Kd)(cs:List Value):Prop:=
 ∃ l:List SV,wX ks l=true/\l.length=cs.length/\∀ (j:Nat) (s:SV) (v:Value),l[j]? =some s->cs[j]? =some v->Rel F own w s v
theorem Sp:∀ {a b:List Kd} {l m:List SV},wX a l=true->wX b m=true->wX (a++b) (l++m)=true
 | [],b,l,m,h1,h2=>by grind [xb]
 |k::a,b,l,m,h1,h2=>by
  obtain⟨x,r,rfl,E,O⟩:=rT h1;simp[aqB,wX,E,Sp O h2,Bool.and_self]
theorem RC.nil:RC F own w [] []:=⟨[],rfl,rfl,λj s v h=>by cases h⟩
theorem RC.app {a b:List Kd}{c d:List Value}(h1:RC F own w a c)(h2:RC F own w b d):RC F own w (a++b) (c++d):=by
 have⟨l,f1,n1,r1⟩:=h1;have⟨m,f2,n2,r2⟩:=h2;refine⟨l++m,Sp f1 f2,by simp[n1,n2],λj s v E O=>?_⟩;grind
theorem RC.one {k:Kd}{s:SV}{v:Value}(h1:fit k s=true)(h2:Rel F own w s v):RC F own w [k] [v]:=
 ⟨[s],by simp[wX,h1],rfl,λj s' O E V=>by
  grind⟩
end
def aia:Kd->Kd->Bool
 | .s,.s=>true| .b,.b=>true| .n a,.n b=>decide (a=b)| .r a,.r b=>decide (a=b)| .m a c,.m b d=>decide (a=b)&&decide (c=d)|_,_=>false
def ad6:∀ {a b:Kd},aia a b=true->a=b:=by
 intro a b h;cases a <;>cases b <;>simp_all [aia]
def abG:List Kd->List Kd->Bool
 | [],[] =>true|a::l,b::m=>aia a b&&abG l m|_,_=>false
def VW:∀ {a b:List Kd},abG a b=true->a=b
 | [],[],_=>rfl
 |a::l,b::m,h=>by
  simp[abG,ap9]at h;rw[ad6 h.1,VW h.2]
def Km (P:Program)(g:TypeId->Option (List Kd)):List Field->Nat->Nat->Option (List Kd)
 | [],off,tot=>bif Nat.beq off tot then some []else none
 |f::r,off,tot=>match g f.type with
  |some a=>bif Nat.beq f.offset off&&Nat.beq a.length (P.cellsOf f.type)then(Km P g r (off+a.length) tot).map (a++ ·)else none|none=>none
def Uk (a:List Kd):Nat->List Kd
 |0=>[]|n+1=>a++Uk a n
def Kn (P:Program):Nat->TypeId->Option (List Kd)
 |0,_=>none
 |n+1,t=>match P.underlying t with
  |some .bool=>some [.b]|some (.int k) =>some [.n k]|some .string=>some [.s]
  |some (.slice e) =>match Pt P e,Kn P n e with
   |some k,some ks=>bif abG ks (dX k)&&Nat.beq (P.cellsOf e) (ae k)&&Nat.ble 1 (ae k)then some [.r k]else none|_,_=>none
  |some (.struct fs) =>Km P (Kn P n) fs.toList 0 (P.cellsOf t)
  |some (.array m e) =>match Kn P n e with
   |some a=>bif Nat.beq a.length (P.cellsOf e)&&Nat.beq (P.cellsOf t) (m*a.length)then some (Uk a m)else none|none=>none
  |_=>none
section
variable {H:Type}{enc:TypeId×Value->H}{P:Program}{F:Nat->Prop}{own:Own}{w:World}{base:Nat}{spare:Nat->Bool}{held:Bool}{S:DataW H->Prop}
def VX {g:TypeId->Option (List Kd)}(Y:∀ t ks,g t=some ks->∀ (E:Nat) (cs:List Value) (x:DataW H×List MemPlace),DataW.trod enc P w base spare held E t cs=some x->S x.1->RC F own w ks cs)
  (E:Nat) (cs:List Value):∀ (fs:List Field) (off:Nat) (ks:List Kd),Km P g fs off cs.length=some ks->(∀ f∈fs,∃ x,DataW.trod enc P w base spare held E f.type ((cs.drop f.offset).take (P.cellsOf f.type))=some x/\S x.1)->RC F own w ks (cs.drop off)
 | [],off,ks,h,_=>by
  unfold Km at h;cases O:Nat.beq off cs.length with
  |false=>grind
  |true=>
   rw[O]at h;have:off=cs.length:=ap_ O;subst this;cases h;rw[List.drop_length];exact RC.nil
 |f::r,off,ks,h,X=>by
  unfold Km at h;cases W:g f.type with
  |none=>grind
  |some a=>
   rw[W]at h;dsimp only at h;cases O:Nat.beq f.offset off&&Nat.beq a.length (P.cellsOf f.type)with
   |false=>grind
   |true=>
    rw[O]at h;simp[cond_true,arn]at h;obtain⟨V,h2,rfl⟩:=h;rw[ap9]at O;have e1:f.offset=off:=ap_ O.1;have e2:a.length=P.cellsOf f.type:=ap_ O.2;have⟨x,hx1,hs1⟩:=X f (by simp);have h3:=Y _ _ W _ _ _ hx1 hs1;have h4:=VX Y E cs r (off+a.length) V h2 λf hf=>X f (by simp[hf]);have:=h3.app h4;grind [List.drop_drop,List.take_append_drop]
def VY {e:TypeId}{a:List Kd}(O:∀ (E:Nat) (cs:List Value) (x:DataW H×List MemPlace),DataW.trod enc P w base spare held E e cs=some x->S x.1->RC F own w a cs)
  (E:Nat):∀ (m:Nat) (cs:List Value),cs.length=m*a.length->(∀ i,i<m->∃ x,DataW.trod enc P w base spare held E e ((cs.drop (i*a.length)).take a.length)=some x/\S x.1)->RC F own w (Uk a m) cs
 |0,cs,h,_=>by
  have:cs=[]:=by simpa using h
  subst this;exact RC.nil
 |m+1,cs,h,hx=>by
  have⟨x,hx1,hs1⟩:=hx 0 XM;rw[Nat.zero_mul,as0]at hx1;have W:=O _ _ _ hx1 hs1;have V:=VY O E m (cs.drop a.length) XN λi hi=>by
   grind [List.drop_drop]
  have:=W.app V
  rwa[aq6]at this
structure Small (S:DataW H->Prop):Prop where
 agg:∀ l,S (.agg l)->∀ d∈l,S d
 slice:∀ l m,S (.slice l m)->l.length<=aD/\∀ d∈l,S d
def sH (hS:Small S)(O:∀ b,¬dn F own b):∀ (n:Nat) (t:TypeId) (ks:List Kd),Kn P n t=some ks->∀ (fuel:Nat) (cs:List Value) (x:DataW H×List MemPlace),DataW.trod enc P w base spare held fuel t cs=some x->S x.1->RC F own w ks cs
 |0,_,_,h,_,_,_,_,_=>by cases h
 |n+1,t,ks,h,fuel,cs,x,hx,hs=>by
  unfold Kn at h;split at h
  rename_i W;cases h;obtain⟨b,rfl,rfl⟩:=DataW.trod_bool W hx;exact RC.one (s:=.v (.bool b)) rfl (.v _);rename_i k W;cases h;obtain⟨m,rfl,rfl,_⟩:=DataW.trod_int W hx;exact RC.one (s:=.v (.int k m)) (by simp[fit]) (.v _);rename_i W;cases h;obtain⟨b,rfl,rfl,_⟩:=DataW.trod_string W hx;exact RC.one (s:=.v (.string b)) rfl (.v _)
  ·rename_i e W;split at h
   ·rename_i k ks2 hk hks;cases V:abG ks2 (dX k)&&Nat.beq (P.cellsOf e) (ae k)&&Nat.ble 1 (ae k)with
    |false=>rw[V]at h;cases h
    |true=>
     rw[V]at h;cases h;simp only[ap9]at V;have e1:=VW V.1.1;have e2:P.cellsOf e=ae k:=ap_ V.1.2;have e3:1<=ae k:=nbl V.2;subst e1;rcases open_slice W hx with⟨rfl,rfl⟩ | ⟨a,len,cap,m,f2,D,Pl,rfl,hb1,hl,hm,hmm,rfl,hel⟩;exact RC.one (s:=.rs k []) (by simp[fit]) .rs0
     ·have hlm:len<=m:=by subst hmm;split <;>omega
      have⟨hs1,hs2⟩:=hS.slice _ _ hs;simp[aq5,arG]at hs1;have helt:∀ i,i<len->∃ E,E.length=ae k/\(∀ j v,E[j]? =some v->w.cell? ((a.add (i*ae k)).add j)=some v)/\RC F own w (dX k) E:=λi hi=>by
       have⟨E,h1,h2⟩:=hel i XM;have h3:=sH hS O n e (dX k) hks f2 E _ h2 (hs2 _ (arI (arW.2 hi)));unfold World.cells? at h1;split at h1
       refine⟨E,by rw[mapM_some_length h1,arG,e2],λj v Y=>?_,h3⟩;have hlt:j<P.cellsOf e:=by
        have:=(aqe.1 Y).1
        rwa[mapM_some_length h1,arG]at this
       have:=mapM_some_get h1 j j (by simp[hlt]);rw[e2]at this;rw[this,Y];cases h1
      by_cases h0:len=0
      subst h0;exact RC.one (s:=.rs k []) (by simp[fit]) .rs0
      ·have hsp:a.spot=none:=by
        have⟨E,h1,h2,_⟩:=helt 0 XM;have:=h2 0 (E[0]'(XM)) (by rw[aqf]);simp[Addr.add,if_true]at this;unfold World.cell? at this;split at this
        cases hsp:a.spot with
        |none=>rfl|some q=>rw[hsp]at this;simp at this
        cases this
       obtain⟨ab,ao,asp⟩:=a;subst hsp
       haveI:Inhabited k.T:=⟨eT k⟩
       have⟨X,hX⟩:=choose_lt (p:=λi (x:k.T) =>∀ (j:Nat) (s:SV),(cellsOf k x)[j]? =some s->∃ v,w.cell? ⟨ab,ao+i*ae k+j,none⟩=some v/\Rel F own w s v) (n:=len) λi hi=>by
        have⟨E,h1,h2,l,h3,h4,h5⟩:=helt i hi;refine⟨mkE k l,λj s Y=>?_⟩;rw[tD (k:=k) (l:=l) (x:=mkE k l) (by unfold yQ;rw[h3];rfl)]at Y;have hlt:j<E.length:=by
         have:=(aqe.1 Y).1;omega
        refine⟨E[j],?_,h5 j s _ Y (aqf hlt)⟩;have:=h2 j E[j] (aqf hlt);have hadd:∀ p q,((⟨ab,ao,none⟩:Addr).add p).add q=⟨ab,ao+p+q,none⟩:=λp q=>by
         unfold Addr.add;by_cases hp:p=0 <;>by_cases hq:q=0 <;>simp[hp]
        rwa[hadd]at this
       have hL:((List.range len).map X).length=len:=by simp
       refine RC.one (s:=.rs k ((List.range len).map X)) (by simp[fit]) ?_;have hget:∀ (i:Nat) (x:k.T),((List.range len).map X)[i]? =some x->i<len/\x=X i:=λi x hi=>by
        have⟨h1,h2⟩:=aqe.1 hi;rw[hL]at h1;simp[List.getElem_map,List.getElem_range]at h2;subst h2;exact⟨h1,rfl⟩
       have:=Rel.rs (F:=F) (own:=own) (w:=w) (k:=k) (l:=(List.range len).map X) (b:=ab) (o:=ao) (cap:=cap) (λi j=>(w.cell? ⟨ab,ao+i*ae k+j,none⟩).getD undef) (by rw[hL];exact hl) (by rw[hL];exact hs1)
        (λi x hi j s Y=>by
         obtain⟨h1,rfl⟩:=hget i x hi;have⟨v,h2,_⟩:=hX i h1 j s Y;exact⟨O _,by rw[h2];rfl⟩)
        (λi x hi j s Y=>by
         obtain⟨h1,rfl⟩:=hget i x hi;have⟨v,h2,h3⟩:=hX i h1 j s Y;rw[h2];exact h3)
       rwa[hL]at this
   cases h
  rename_i fs W;obtain⟨xs,m,rfl,rfl,hl,hlen,hf⟩:=DataW.trod_struct W hx;rw[<-hl]at h;have:=VX (sH hS O n) m cs fs.toList 0 ks h λf hfm=>by
   obtain⟨i,hi,rfl⟩:=aqw hfm;have hi':i<fs.size:=by simpa using hi
   have h1:=hf i fs[i] (by simp[hi']);rw[aqf XM]at h1;refine⟨_,by simpa using h1,hS.agg _ hs _ (arI (aqL _))⟩
  simpa using this;rename_i m e W;split at h
  rename_i a ha;cases V:Nat.beq a.length (P.cellsOf e)&&Nat.beq (P.cellsOf t) (m*a.length)with
  |false=>rw[V]at h;cases h
  |true=>
   rw[V]at h;cases h;rw[ap9]at V;have e1:a.length=P.cellsOf e:=ap_ V.1;have e2:P.cellsOf t=m*a.length:=ap_ V.2;obtain⟨xs,f2,rfl,rfl,hl,hlen,hf⟩:=DataW.trod_array W hx;refine VY (sH hS O n e a ha) f2 m cs (by rw[hl,e2]) λi hi=>?_;have h1:=hf i hi;rw[aqf XM,<-e1]at h1;exact⟨_,h1,hS.agg _ hs _ (arI (aqL _))⟩
  cases h;cases h
end
end Go.Sx
end
section
namespace Go.Sx
open Go.Proofs
section
variable {F:Nat->Prop}{own:Own}{w:World}
def VZ {k:Tag}{cs:Array Value}(h:RC F own w (dX k) cs.toList):∃ x:k.T,Rel F own w (.agg (cellsOf k x)) (.agg cs):=by
 have⟨l,h3,h4,h5⟩:=h;refine⟨mkE k l,?_⟩;rw[tD (k:=k) (l:=l) (x:=mkE k l) (by unfold yQ;rw[h3];rfl)];refine .agg (by simpa using h4.symm) λj s E=>?_;have hlt:j<cs.size:=by
  have:=(aqe.1 E).1;simpa[h4]using this
 exact h5 j s _ E (by simp[hlt])
def aib {k:Tag}{v:Value}(h:RC F own w [.r k] [v]):∃ l:List k.T,Rel F own w (.rs k l) v:=by
 have⟨l,h3,h4,h5⟩:=h;obtain⟨x,r,rfl,E,V⟩:=rT h3;have O:=h5 0 x v rfl rfl;cases x with
 |rs k' l'=>
  have:k=k':=by
   exact w_ E
  subst this;exact⟨l',O⟩
 |_=>simp[fit]at E
end
end Go.Sx
end
section
namespace Go.Sx
open Go.ChangeShapes Go.RowKit Go.WideShapes
section
variable {H:Type}{enc:TypeId×Value->H}{P:Program}
def ad7 (P:Program):List TypeId->Bool
 | [] =>true|t::r=>P.readableRec t&&Nat.blt t P.types.size&&ad7 P r
theorem M5 (X:laidOutB P=true){W W':World}(Y:Below W.heap.size W W'):∀ {ts:List TypeId} {vs:List Value} {ds:List (DataW H)} {E:List MemPlace},ad7 P ts=true->
  DataW.TrodAll enc P W 0 (λ_=>true) true ts vs ds E->(∀ x∈E,x.block<W.heap.size)->DataW.TrodAll enc P W' 0 (λb=>decide (b<W.heap.size)) true ts vs ds E
 | [],vs,ds,E,_,h,_=>by
  obtain⟨rfl,rfl,rfl⟩:=trodAll_nil h;exact trodAll_mk0
 |t::ts,vs,ds,E,V,h,hlt=>by
  unfold ad7 at V;rw[ap9,ap9]at V;obtain⟨v,vs',d,ds',p,q,rfl,rfl,rfl,h1,h2⟩:=trodAll_cons h;refine trodAll_cons_mk (WideElems.Trod_stays X V.1.1 (by simpa[Nat.blt_eq]using V.1.2) h1 (λx O=>Y.same (hlt x (arX _ O))) (λx O=>by simpa using hlt x (arX _ O))) ?_;exact M5 X Y V.2 h2 λx O=>hlt x (aro _ O)
theorem abH (hl:laidOutB P=true){f:Func}{s:ChangeSpec}{W W':World}{args:Array Value}{ds gs:List (DataW H)}{E:List MemPlace}{t:TypeId}
  (hk:ad7 P f.params.toList=true) (X:DataW.Whole enc P f.params.toList s.vars false W args.toList ds gs E)
  (hr:f.resultTypes= #[t]) (ht:P.underlying t=some .bool) (hv:s.vars=[]) (h1:(s.fn H (ds++gs)).results=[.lit (.bool true)]) (h2:(s.fn H (ds++gs)).args=ds) (h3:(s.fn H (ds++gs)).vars=[])
  (hg:Below W.heap.size W W'):s.post enc P f false true false false W args (.bool true) W':=by
 have hlt:=X.lt;have V:=X;obtain⟨p,q,hA,Y,rfl,_,_⟩:=X;rw[hv]at Y;obtain⟨rfl,rfl⟩:=trodVars_none Y;refine⟨ds,[],p++[],[],p,[],V,?_,?_,?_,?_,λh=>by cases h⟩;rw[h1,hr];exact trodAll_cons_mk (shut_bool ht _) trodAll_mk0;rw[h2];exact M5 hl hg hk hA λx O=>hlt x (by simpa using O);rw[h3,hv];rfl;exact World.keptBut_mono (λx O=>⟨O,.inr (.inl (by simpa using O))⟩) (hg.frame (· ∈p++[]))
end
end Go.Sx
end
section
namespace Go.Proofs.YtaikmgjfkejlkaaGreat.bulks
variable {H:Type}
theorem one_le(d:DataW H):1<=Rows.uptoBulk d:=by
 cases d with
 |lit l=>cases l <;>simp[Rows.uptoBulk]|nil=>simp[Rows.uptoBulk]|ptr d=>simp[Rows.uptoBulk]|slice ul spare=>simp[Rows.uptoBulk]|agg O=>simp[Rows.uptoBulk]|iface t d=>simp[Rows.uptoBulk]|map E=>simp[Rows.uptoBulk]|held h=>simp[Rows.uptoBulk]
variable {l:List (DataW H)}
theorem avh{d:DataW H}(h:d∈l):Rows.uptoBulk d<=Rows.uptoBulkAll l:=by
 induction l with
 |nil=>cases h
 |cons x r E=>
  simp[Rows.uptoBulkAll];cases List.mem_cons.1 h with
  |inl e=>subst e;omega|inr e=>have:=E e;omega
theorem append(l r:List (DataW H)):Rows.uptoBulkAll (l++r)=Rows.uptoBulkAll l+Rows.uptoBulkAll r:=by
 induction l with
 |nil=>simp[Rows.uptoBulkAll]|cons x l E=>simp[List.cons_append,Rows.uptoBulkAll];omega
theorem length_le(l:List (DataW H)):l.length<=Rows.uptoBulkAll l:=by
 induction l with
 |nil=>simp[Rows.uptoBulkAll]|cons x r E=>have:=one_le x;simp[Rows.uptoBulkAll,List.length_cons];omega
theorem avt(ul spare:List (DataW H)):ul.length+spare.length+1<=Rows.uptoBulk (.slice ul spare):=by
 have h1:=length_le ul;have h2:=length_le spare;simp[Rows.uptoBulk];omega
theorem au7(ul spare:List (DataW H)):Rows.uptoBulkAll ul+1<=Rows.uptoBulk (.slice ul spare):=by
 simp only[Rows.uptoBulk];omega
theorem bound(E:Rows.uptoSmall H l=true):Rows.uptoBulkAll l<=1048576:=by
 simpa[Rows.uptoSmall]using E
theorem room {n b:Nat}(hn:n<=2097152)(E:b<=4096):(n+n / 4+192)*b<=281474976710656:=by
 have h:(n+n / 4+192)*b<=2621632*4096:=Nat.mul_le_mul (by omega) E;omega
end Go.Proofs.YtaikmgjfkejlkaaGreat.bulks
end
