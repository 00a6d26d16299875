/- Part of the proof that the law TimetableSpec returns true and leaves its arguments as they were, for all arguments of bulk at most 1048576 (the Upto form). -/
import Derived.Test.YtagjakphhkfofaaGreatC612
import Derived.Test.YtagjakphhkfofaaGreatC606
import Derived.Deep.Slices
import Derived.OpenShut
import Derived.Test.YtagjakphhkfofaaGreatC607
import Derived.ChangeSame
import Derived.WideKeyArgs
import Derived.Below
import Derived.Test.YtagjakphhkfofaaGreatRows
import Derived.WalkKit
import Derived.ProofKit
import Derived.JoinedCond
import Derived.Carry
set_option linter.all false
set_option maxHeartbeats 4000000
section
namespace Go.Sx
open Go.Proofs Go.Shelf Go.Sort Go.Lib
set_option maxRecDepth 100000
theorem Ch {d:District}{l:List Order}(ho:Orders1 d l)(r a b:Int):eC l r a b=cm (c9 r a b) l:=by
 have hlen:=ho.len
 obtain⟨s',e,hs⟩:=wI (step:=kv l r a b) (fun j s=>s=cm (c9 r a b) (l.take j)) l.length 0 0 rfl fun j s _ hj q=>by
  have hj':j<l.length:=by omega
  have b1:=nH (p:=c9 r a b) (l:=l.take (j+1)) fun x hx=>ho.lit x (List.mem_of_mem_take hx)
  have tk:=kQ (p:=c9 r a b) hj'
  have hln:(l.take (j+1)).length≤4096:=by rw[List.length_take];omega
  refine⟨_,?_,rfl⟩
  unfold kv
  rw[cI l default hj',q]
  show(bif c9 r a b l[j]then _ else _)=_
  cases hg:c9 r a b l[j]with
  |true=>
   rw[hg,cond_true]at tk
   rw[cond_true,←tk,bu (by omega) (by omega)]
  |false=>
   rw[hg,cond_false,Int.add_zero]at tk
   rw[cond_false,tk]
 unfold eC
 rw[e]
 rw[hs,Nat.zero_add,List.take_length]
theorem zG {ρ:Type}{f:Nat→List Fault}{enc:Fault→ρ}{step:Nat→Unit→ρ⊕Unit}(N:Nat)(hst:∀ j,j<N→step j ()=match f j with| [] =>.inr () |x::_=>.inl (enc x)):∀ (n i:Nat),i+n=N→aw step n i ()=match (List.range' i n).flatMap f with| [] =>.inr () |x::_=>.inl (enc x)
 |0,i,_=>rfl
 |n+1,i,h=>by
  rw[List.range'_succ,List.flatMap_cons]
  unfold aw
  rw[hst i (by omega)]
  cases hf:f i with
  |nil=>rw[List.nil_append];exact zG N hst n (i+1) (by omega)
  |cons x r=>rfl
section
variable {d:District}{l:List Order}
theorem brk1 (ho:Orders1 d l){h i:Nat}(hh:h<d.hours.toNat)(hi:i<d.reaches.length):gH d l h i ()=match bk d l h i with| [] =>.inr () |x::_=>.inl (x.kind,x.index,x.litres,x.limit):=by
 have hr:=ho.right
 have hH:=hr.hours;have hH1:=hr.hours1
 have hdy:1≤(rch d i).delay∧(rch d i).delay≤16:=kS hr hi
 have hw:IntKind.i64.wrap ((IntKind.i64.wrap ((h:Int) - (d.reaches.getD i default).delay))+1)=(h:Int) - (rch d i).delay+1:=by
  show IntKind.i64.wrap ((IntKind.i64.wrap ((h:Int) - (rch d i).delay))+1)=_
  rw[bu (n:=(h:Int) - (rch d i).delay) (by omega) (by omega),bu (by omega) (by omega)]
 unfold gH bk
 rw[hw,Ch ho,Ch ho]
 rw[show d.reaches.getD i default=rch d i from rfl]
 by_cases h1:cm (c9 i h h) l > (rch d i).cap
 ·rw[decide_eq_true h1,if_pos h1];rfl
 ·rw[decide_eq_false h1,if_neg h1]
  by_cases h2:cm (c9 i ((h:Int) - (rch d i).delay+1) h) l > (rch d i).bank
  ·rw[decide_eq_true h2,if_pos h2];rfl
  ·rw[decide_eq_false h2,if_neg h2];rfl
theorem brk0 (ho:Orders1 d l){h:Nat}(hh:h<d.hours.toNat):gI d l h ()=match bkH d l h with| [] =>.inr () |x::_=>.inl (vU x):=by
 have e:=zG (f:=bk d l h) (enc:=fun x=>(x.kind,x.index,x.litres,x.limit)) (step:=gH d l h) d.reaches.length (fun j hj=>brk1 ho hh hj) d.reaches.length 0 (by omega)
 have hhr:∀ x∈bkH d l h,x.hour=(h:Int):=fun x hx=>by
  unfold bkH at hx
  rw[List.mem_flatMap]at hx
  obtain⟨i,_,hi⟩:=hx
  unfold bk at hi
  rcases List.mem_append.1 hi with hi|hi
  ·split at hi
   ·rw[List.mem_singleton.1 hi]
   ·cases hi
  ·split at hi
   ·rw[List.mem_singleton.1 hi]
   ·cases hi
 unfold gI
 rw[e]
 show(match (match bkH d l h with| [] =>_|x::_=>_:(Int×Int×Int×Int)⊕Unit)with| .inl x=>_| .inr s=>_)=_
 cases hb:bkH d l h with
 |nil=>rfl
 |cons x r=>
  have:=hhr x (by rw[hb];exact List.mem_cons_self)
  simp only[vU,this]
theorem Uk (ho:Orders1 d l):eC l 0 0 d.hours=cm g0P l:=by
 rw[Ch ho]
 refine tx fun x hx=>?_
 obtain⟨k,hk,rfl⟩:=List.getElem_of_mem hx
 have h1:=ho.one k hk
 rw[cI l default hk]at h1
 have:=h1.hour0;have:=h1.hour
 unfold c9 g0P
 rw[decide_eq_true (by omega:l[k].hour≥0),decide_eq_true (by omega:l[k].hour≤d.hours),Bool.and_true,Bool.and_true]
theorem K4 (ho:Orders1 d l):gy d l=(match sG d l with| [] =>(({ kind:=0,hour:=0,index:=0,litres:=0,limit:=0}:Fault),false) |x::_=>(x,true))∧ic d l:=by
 have e:=zG (f:=bkH d l) (enc:=vU) (step:=gI d l) d.hours.toNat (fun j hj=>brk0 ho hj) d.hours.toNat 0 (by omega)
 have hH:=ho.right.hours
 refine⟨?_,by unfold ic;omega⟩
 unfold gy sG
 rw[e,Uk ho]
 cases(List.range' 0 d.hours.toNat).flatMap (bkH d l)with
 |cons x r=>rfl
 |nil=>
  rw[List.nil_append]
  by_cases h:cm g0P l > d.tank.start
  ·simp only[decide_eq_true h,if_pos h,cond_true]
  ·simp only[decide_eq_false h,if_neg h,cond_false]
end
def zF (f:Fault):Bool:=(f.kind==0)&&((f.hour==0)&&((f.index==0)&&((f.litres==0)&&(f.limit==0))))
theorem G0 {f:Fault}(h:f.kind≠0):zF f=false:=by
 unfold zF
 rw[show(f.kind==0)=false by rw[beq_eq_false_iff_ne];exact h,Bool.false_and]
theorem G1 (d:District)(c:List Claim):dg d c=((av d c).1,(av d c).2.1,!(zF (av d c).2.1),(av d c).2.2)∧gM d c∧
  (((av d c).2.2≠0∨zF (av d c).2.1=false)→(av d c).1=[]):=by
 obtain⟨k1,k2⟩:=Nj d c
 by_cases hA:Askd d c
 ·have ha:=AY hA
  have hN:=hA.nar
  have hall:=hA.outs.out
  have hr:=hN.good.right
  have ho:=hN.good.orders
  obtain⟨o1,o2⟩:=A_ hA.chk
  obtain⟨p1,p2⟩:=Qh d (aq c)
  have k0:fE d c=0:=by rw[k1,ha]
  obtain⟨q1,q2,_⟩:=Qn c hr ho hall o1 o2
  obtain⟨_,_,_,_,hk7⟩:=tD hr ho hall
  have hP:am d (aq c)=([],false,0)∨(∃ l,am d (aq c)=(l,true,0)∧Good d l)∨am d (aq c)=([],false,2):=by
   rcases tA d (aq c)with⟨q,_⟩ | ⟨_,q,_⟩ | ⟨_,_,hx,e⟩ | ⟨_,_,gs,hF,hlen,e⟩ | ⟨_,_,gs,hP,e⟩
   ·exact absurd ((nK _ _).2 hN) q
   ·exact absurd hall q
   ·exact .inl e
   ·exact .inr (.inr e)
   ·exact .inr (.inl ⟨_,e,hP.good⟩)
  unfold dg gM av
  rw[k0,o1,p1,ha]
  simp only[bne_self_eq_false,cond_false]
  rcases hP with e| ⟨l,e,hg⟩ |e
  ·have hne:=M9 hr ho hall (by rw[e]) (by rw[e])
   obtain⟨f1,f2⟩:=Nn hk7 hne
   have hm:=hk7 _ (HZ hne)
   rw[e]
   simp only[bne_self_eq_false,cond_false,Bool.not_false,cond_true]
   have hz:zF (dC (aq c) d)=false:=G0 (by rw[hm];decide)
   rw[q1,f1,hz]
   exact⟨rfl,⟨k2,fun _=>⟨o2,p2,fun _=>⟨fun _=>⟨q2,f2⟩,fun q=>by cases q⟩⟩⟩,fun _=>trivial⟩
  ·have hb:=AX hg.orders
   have hb2:=K4 hg.orders
   rw[e]
   simp only[bne_self_eq_false,cond_false,Bool.not_true]
   rw[hb.1,hb2.1]
   cases hB:sG d l with
   |nil=>
    simp only[cF,cond_false]
    exact⟨rfl,⟨k2,fun _=>⟨o2,p2,fun _=>⟨fun q=>(by cases q),fun _=>hb2.2⟩⟩⟩,fun q=>(by rcases q with q|q;exact absurd rfl q;cases q)⟩
   |cons x r=>
    have hx:=(FG (d:=d) (l:=l) x (by rw[hB];exact List.mem_cons_self)).1
    have hz:zF x=false:=G0 hx
    simp only[cF,dc,cond_true,hz,Bool.not_false]
    exact⟨trivial,⟨k2,fun _=>⟨o2,p2,fun _=>⟨fun q=>(by cases q),fun _=>hb2.2⟩⟩⟩,fun _=>trivial⟩
  ·rw[e]
   simp only[show((2:Int) !=0)=true from rfl,cond_true]
   exact⟨rfl,⟨k2,fun _=>⟨o2,p2,fun q=>by cases q⟩⟩,fun _=>trivial⟩
 ·have hn:(ag d c).2≠0:=fun h=>hA (o9.1 h)
  have hb:((ag d c).2 !=0)=true:=by simpa using hn
  unfold dg av
  rw[k1,hb]
  simp only[cond_true]
  exact⟨rfl,⟨k2,fun q=>by rw[k1,hb]at q;cases q⟩,fun _=>trivial⟩
theorem K5 (d:District)(c:List Claim):fK d c=aM d c∧mW d c:=by
 obtain⟨e,p,h⟩:=G1 d c
 refine⟨?_,p⟩
 unfold fK aM
 rw[e]
 simp only
 by_cases h0:(av d c).2.2=0
 ·rw[h0]
  simp only[bne_self_eq_false,Bool.false_or,beq_self_eq_true,Bool.true_and]
  show _=((av d c).1,zF (av d c).2.1,0)
  cases hz:zF (av d c).2.1 with
  |true=>rfl
  |false=>rw[h (.inr hz)];rfl
 ·have hb:((av d c).2.2 !=0)=true:=by simpa using h0
  have hb2:((av d c).2.2==0)=false:=by simpa using h0
  rw[hb,hb2,h (.inl h0)]
  rfl
theorem G2 (d:District)(c:List Claim):dK d c=bE d c∧lL d c:=by
 obtain⟨e,p,h⟩:=G1 d c
 refine⟨?_,p⟩
 unfold dK bE
 rw[e]
 rfl
theorem FP (l:List Order):fc l l=true:=by
 unfold fc
 rw[bne_self_eq_false,cond_false]
 rw[r7 fun j _ _=>by
  unfold fQ
  simp only[beq_self_eq_true,Bool.and_self,Bool.not_true,cond_false]]
theorem K6 (d:District)(c:List Claim):eR d c=true:=by
 unfold eR
 rw[K1,(K5 d c).1,(G2 d c).1,FP]
 simp only[beq_self_eq_true,Bool.and_self,Bool.not_true,cond_false]
 cases o_ d c <;>rfl
theorem K7 (d:District)(c:List Claim):fq d c:=
 ⟨K3,fun _ _=>⟨xu d c,(K5 d c).2,y8 d c,(G2 d c).2,Eg _ _⟩⟩
end Go.Sx
end
section
namespace Go.Sx
open Go.RowKit Go.Deep
section
variable {F:Nat→Prop}{own:Own}{w:World}
def RC (F:Nat→Prop)(own:Own)(w:World)(ks:List Kd)(cs:List Value):Prop:=
 ∃ l:List SV,oF ks l=true∧l.length=cs.length∧∀ (j:Nat) (s:SV) (v:Value),l[j]? =some s→cs[j]? =some v→Rel F own w s v
theorem Eh:∀ {a b:List Kd} {l m:List SV},oF a l=true→oF b m=true→oF (a++b) (l++m)=true
 | [],b,l,m,h1,h2=>by rw[oQ h1];exact h2
 |k::a,b,l,m,h1,h2=>by
  obtain⟨x,r,rfl,e1,e2⟩:=kG h1
  simp only[List.cons_append,oF,e1,Eh e2 h2,Bool.and_self]
theorem RC.nil:RC F own w [] []:=⟨[],rfl,rfl,fun j s v h=>by cases h⟩
theorem RC.app {a b:List Kd}{c d:List Value}(h1:RC F own w a c)(h2:RC F own w b d):RC F own w (a++b) (c++d):=by
 obtain⟨l,f1,n1,r1⟩:=h1
 obtain⟨m,f2,n2,r2⟩:=h2
 refine⟨l++m,Eh f1 f2,by simp[n1,n2],fun j s v hs hv=>?_⟩
 by_cases hj:j<l.length
 ·rw[List.getElem?_append_left hj]at hs
  rw[List.getElem?_append_left (by omega)]at hv
  exact r1 j s v hs hv
 ·rw[List.getElem?_append_right (by omega)]at hs
  rw[List.getElem?_append_right (by omega),←n1]at hv
  exact r2 _ s v hs hv
theorem RC.one {k:Kd}{s:SV}{v:Value}(h1:fit k s=true)(h2:Rel F own w s v):RC F own w [k] [v]:=
 ⟨[s],by simp[oF,h1],rfl,fun j s' v' hs hv=>by
  cases j with
  |zero=>simp only[List.getElem?_cons_zero,Option.some.injEq]at hs hv;subst hs;subst hv;exact h2
  |succ j=>simp at hs⟩
end
def Qo:Kd→Kd→Bool
 | .s,.s=>true
 | .b,.b=>true
 | .n a,.n b=>decide (a=b)
 | .r a,.r b=>decide (a=b)
 | .m a c,.m b d=>decide (a=b)&&decide (c=d)
 |_,_=>false
theorem No:∀ {a b:Kd},Qo a b=true→a=b:=by
 intro a b h
 cases a <;>cases b <;>simp_all [Qo]
def K8:List Kd→List Kd→Bool
 | [],[] =>true
 |a::l,b::m=>Qo a b&&K8 l m
 |_,_=>false
theorem G3:∀ {a b:List Kd},K8 a b=true→a=b
 | [],[],_=>rfl
 |a::l,b::m,h=>by
  simp only[K8,Bool.and_eq_true]at h
  rw[No h.1,G3 h.2]
def zH (P:Program)(g:TypeId→Option (List Kd)):List Field→Nat→Nat→Option (List Kd)
 | [],off,tot=>bif Nat.beq off tot then some []else none
 |f::r,off,tot=>match g f.type with
  |some a=>bif Nat.beq f.offset off&&Nat.beq a.length (P.cellsOf f.type)then(zH P g r (off+a.length) tot).map (a++ ·)else none
  |none=>none
def FQ (a:List Kd):Nat→List Kd
 |0=>[]
 |n+1=>a++FQ a n
def zI (P:Program):Nat→TypeId→Option (List Kd)
 |0,_=>none
 |n+1,t=>match P.underlying t with
  |some .bool=>some [.b]
  |some (.int k) =>some [.n k]
  |some .string=>some [.s]
  |some (.slice e) =>match Cn P e,zI P n e with
   |some k,some ks=>bif K8 ks (cV k)&&Nat.beq (P.cellsOf e) (aa k)&&Nat.ble 1 (aa k)then some [.r k]else none
   |_,_=>none
  |some (.struct fs) =>zH P (zI P n) fs.toList 0 (P.cellsOf t)
  |some (.array m e) =>match zI P n e with
   |some a=>bif Nat.beq a.length (P.cellsOf e)&&Nat.beq (P.cellsOf t) (m*a.length)then some (FQ a m)else none
   |none=>none
  |_=>none
section
variable {H:Type}{enc:TypeId×Value→H}{P:Program}{F:Nat→Prop}{own:Own}{w:World}{base:Nat}{spare:Nat→Bool}{held:Bool}{S:DataW H→Prop}
theorem G4 {g:TypeId→Option (List Kd)}(hg:∀ t ks,g t=some ks→∀ (fuel:Nat) (cs:List Value) (x:DataW H×List MemPlace),DataW.trod enc P w base spare held fuel t cs=some x→S x.1→RC F own w ks cs)
  (fuel:Nat) (cs:List Value):∀ (fs:List Field) (off:Nat) (ks:List Kd),zH P g fs off cs.length=some ks→(∀ f∈fs,∃ x,DataW.trod enc P w base spare held fuel f.type ((cs.drop f.offset).take (P.cellsOf f.type))=some x∧S x.1)→RC F own w ks (cs.drop off)
 | [],off,ks,h,_=>by
  unfold zH at h
  cases hb:Nat.beq off cs.length with
  |false=>rw[hb]at h;cases h
  |true=>
   rw[hb]at h
   have:off=cs.length:=Nat.eq_of_beq_eq_true hb
   subst this
   cases h
   rw[List.drop_length]
   exact RC.nil
 |f::r,off,ks,h,hx=>by
  unfold zH at h
  cases ha:g f.type with
  |none=>rw[ha]at h;cases h
  |some a=>
   rw[ha]at h
   dsimp only at h
   cases hb:Nat.beq f.offset off&&Nat.beq a.length (P.cellsOf f.type)with
   |false=>rw[hb]at h;cases h
   |true=>
    rw[hb]at h
    simp only[cond_true,Option.map_eq_some_iff]at h
    obtain⟨ks2,h2,rfl⟩:=h
    rw[Bool.and_eq_true]at hb
    have e1:f.offset=off:=Nat.eq_of_beq_eq_true hb.1
    have e2:a.length=P.cellsOf f.type:=Nat.eq_of_beq_eq_true hb.2
    obtain⟨x,hx1,hs1⟩:=hx f (by simp)
    have h3:=hg _ _ ha _ _ _ hx1 hs1
    have h4:=G4 hg fuel cs r (off+a.length) ks2 h2 fun f hf=>hx f (by simp[hf])
    have:=h3.app h4
    rw[e1,←e2]at this
    rwa[←List.drop_drop,List.take_append_drop]at this
theorem G5 {e:TypeId}{a:List Kd}(ha:∀ (fuel:Nat) (cs:List Value) (x:DataW H×List MemPlace),DataW.trod enc P w base spare held fuel e cs=some x→S x.1→RC F own w a cs)
  (fuel:Nat):∀ (m:Nat) (cs:List Value),cs.length=m*a.length→(∀ i,i<m→∃ x,DataW.trod enc P w base spare held fuel e ((cs.drop (i*a.length)).take a.length)=some x∧S x.1)→RC F own w (FQ a m) cs
 |0,cs,h,_=>by
  have:cs=[]:=by simpa using h
  subst this
  exact RC.nil
 |m+1,cs,h,hx=>by
  obtain⟨x,hx1,hs1⟩:=hx 0 (by omega)
  rw[Nat.zero_mul,List.drop_zero]at hx1
  have h3:=ha _ _ _ hx1 hs1
  have h4:=G5 ha fuel m (cs.drop a.length) (by rw[List.length_drop,h,Nat.succ_mul];omega) fun i hi=>by
   obtain⟨x,hx2,hs2⟩:=hx (i+1) (by omega)
   refine⟨x,?_,hs2⟩
   rw[List.drop_drop]
   rwa[Nat.succ_mul,Nat.add_comm]at hx2
  have:=h3.app h4
  rwa[List.take_append_drop]at this
structure Small (S:DataW H→Prop):Prop where
 agg:∀ l,S (.agg l)→∀ d∈l,S d
 slice:∀ l m,S (.slice l m)→l.length≤ba∧∀ d∈l,S d
theorem nW (hS:Small S)(hown:∀ b,¬bQ F own b):∀ (n:Nat) (t:TypeId) (ks:List Kd),zI P n t=some ks→∀ (fuel:Nat) (cs:List Value) (x:DataW H×List MemPlace),DataW.trod enc P w base spare held fuel t cs=some x→S x.1→RC F own w ks cs
 |0,_,_,h,_,_,_,_,_=>by cases h
 |n+1,t,ks,h,fuel,cs,x,hx,hs=>by
  unfold zI at h
  split at h
  ·rename_i ht
   cases h
   obtain⟨b,rfl,rfl⟩:=DataW.trod_bool ht hx
   exact RC.one (s:=.v (.bool b)) rfl (.v _)
  ·rename_i k ht
   cases h
   obtain⟨m,rfl,rfl,_⟩:=DataW.trod_int ht hx
   exact RC.one (s:=.v (.int k m)) (by simp[fit]) (.v _)
  ·rename_i ht
   cases h
   obtain⟨b,rfl,rfl,_⟩:=DataW.trod_string ht hx
   exact RC.one (s:=.v (.string b)) rfl (.v _)
  ·rename_i e ht
   split at h
   ·rename_i k ks2 hk hks
    cases hb:K8 ks2 (cV k)&&Nat.beq (P.cellsOf e) (aa k)&&Nat.ble 1 (aa k)with
    |false=>rw[hb]at h;cases h
    |true=>
     rw[hb]at h
     cases h
     simp only[Bool.and_eq_true]at hb
     have e1:=G3 hb.1.1
     have e2:P.cellsOf e=aa k:=Nat.eq_of_beq_eq_true hb.1.2
     have e3:1≤aa k:=Nat.le_of_ble_eq_true hb.2
     subst e1
     rcases open_slice ht hx with⟨rfl,rfl⟩ | ⟨a,len,cap,m,f2,D,Pl,rfl,hb1,hl,hm,hmm,rfl,hel⟩
     ·exact RC.one (s:=.rs k []) (by simp[fit]) .rs0
     ·have hlm:len≤m:=by subst hmm;split <;>omega
      obtain⟨hs1,hs2⟩:=hS.slice _ _ hs
      simp only[List.length_map,List.length_range]at hs1
      have helt:∀ i,i<len→∃ cs',cs'.length=aa k∧(∀ j v,cs'[j]? =some v→w.cell? ((a.add (i*aa k)).add j)=some v)∧RC F own w (cV k) cs':=fun i hi=>by
       obtain⟨cs',h1,h2⟩:=hel i (by omega)
       have h3:=nW hS hown n e (cV k) hks f2 cs' _ h2 (hs2 _ (List.mem_map_of_mem (List.mem_range.2 hi)))
       unfold World.cells? at h1
       split at h1
       ·refine⟨cs',by rw[mapM_some_length h1,List.length_range,e2],fun j v hj=>?_,h3⟩
        have hlt:j<P.cellsOf e:=by
         have:=(List.getElem?_eq_some_iff.1 hj).1
         rwa[mapM_some_length h1,List.length_range]at this
        have:=mapM_some_get h1 j j (by simp[hlt])
        rw[e2]at this
        rw[this,hj]
       ·cases h1
      by_cases h0:len=0
      ·subst h0
       exact RC.one (s:=.rs k []) (by simp[fit]) .rs0
      ·have hsp:a.spot=none:=by
        obtain⟨cs',h1,h2,_⟩:=helt 0 (by omega)
        have:=h2 0 (cs'[0]'(by omega)) (by rw[List.getElem?_eq_getElem])
        rw[Nat.zero_mul]at this
        simp only[Addr.add,if_true]at this
        unfold World.cell? at this
        split at this
        ·cases hsp:a.spot with
         |none=>rfl
         |some q=>rw[hsp]at this;simp at this
        ·cases this
       obtain⟨ab,ao,asp⟩:=a
       dsimp only at hsp
       subst hsp
       haveI:Inhabited k.T:=⟨dN k⟩
       obtain⟨X,hX⟩:=choose_lt (p:=fun i (x:k.T) =>∀ (j:Nat) (s:SV),(cellsOf k x)[j]? =some s→∃ v,w.cell? ⟨ab,ao+i*aa k+j,none⟩=some v∧Rel F own w s v) (n:=len) fun i hi=>by
        obtain⟨cs',h1,h2,l,h3,h4,h5⟩:=helt i hi
        refine⟨mkE k l,fun j s hj=>?_⟩
        rw[lU (k:=k) (l:=l) (x:=mkE k l) (by unfold oG;rw[h3];rfl)]at hj
        have hlt:j<cs'.length:=by
         have:=(List.getElem?_eq_some_iff.1 hj).1
         omega
        refine⟨cs'[j],?_,h5 j s _ hj (List.getElem?_eq_getElem hlt)⟩
        have:=h2 j cs'[j] (List.getElem?_eq_getElem hlt)
        have hadd:∀ p q,((⟨ab,ao,none⟩:Addr).add p).add q=⟨ab,ao+p+q,none⟩:=fun p q=>by
         unfold Addr.add
         by_cases hp:p=0 <;>by_cases hq:q=0 <;>simp[hp,hq]
        rwa[hadd]at this
       have hL:((List.range len).map X).length=len:=by simp
       refine RC.one (s:=.rs k ((List.range len).map X)) (by simp[fit]) ?_
       have hget:∀ (i:Nat) (x:k.T),((List.range len).map X)[i]? =some x→i<len∧x=X i:=fun i x hi=>by
        obtain⟨h1,h2⟩:=List.getElem?_eq_some_iff.1 hi
        rw[hL]at h1
        simp only[List.getElem_map,List.getElem_range]at h2
        subst h2
        exact⟨h1,rfl⟩
       have:=Rel.rs (F:=F) (own:=own) (w:=w) (k:=k) (l:=(List.range len).map X) (b:=ab) (o:=ao) (cap:=cap) (fun i j=>(w.cell? ⟨ab,ao+i*aa k+j,none⟩).getD undef) (by rw[hL];exact hl) (by rw[hL];exact hs1)
        (fun i x hi j s hj=>by
         obtain⟨h1,rfl⟩:=hget i x hi
         obtain⟨v,h2,_⟩:=hX i h1 j s hj
         exact⟨hown _,by rw[h2];rfl⟩)
        (fun i x hi j s hj=>by
         obtain⟨h1,rfl⟩:=hget i x hi
         obtain⟨v,h2,h3⟩:=hX i h1 j s hj
         rw[h2];exact h3)
       rwa[hL]at this
   ·cases h
  ·rename_i fs ht
   obtain⟨xs,m,rfl,rfl,hl,hlen,hf⟩:=DataW.trod_struct ht hx
   rw[←hl]at h
   have:=G4 (nW hS hown n) m cs fs.toList 0 ks h fun f hfm=>by
    obtain⟨i,hi,rfl⟩:=List.getElem_of_mem hfm
    have hi':i<fs.size:=by simpa using hi
    have h1:=hf i fs[i] (by simp[hi'])
    rw[List.getElem?_eq_getElem (by omega)]at h1
    refine⟨_,by simpa using h1,hS.agg _ hs _ (List.mem_map_of_mem (List.getElem_mem _))⟩
   simpa using this
  ·rename_i m e ht
   split at h
   ·rename_i a ha
    cases hb:Nat.beq a.length (P.cellsOf e)&&Nat.beq (P.cellsOf t) (m*a.length)with
    |false=>rw[hb]at h;cases h
    |true=>
     rw[hb]at h
     cases h
     rw[Bool.and_eq_true]at hb
     have e1:a.length=P.cellsOf e:=Nat.eq_of_beq_eq_true hb.1
     have e2:P.cellsOf t=m*a.length:=Nat.eq_of_beq_eq_true hb.2
     obtain⟨xs,f2,rfl,rfl,hl,hlen,hf⟩:=DataW.trod_array ht hx
     refine G5 (nW hS hown n e a ha) f2 m cs (by rw[hl,e2]) fun i hi=>?_
     have h1:=hf i hi
     rw[List.getElem?_eq_getElem (by omega),←e1]at h1
     exact⟨_,h1,hS.agg _ hs _ (List.mem_map_of_mem (List.getElem_mem _))⟩
   ·cases h
  ·cases h
end
end Go.Sx
end
section
namespace Go.Sx
open Go.Proofs
section
variable {F:Nat→Prop}{own:Own}{w:World}
theorem Np {k:Tag}{cs:Array Value}(h:RC F own w (cV k) cs.toList):∃ x:k.T,Rel F own w (.agg (cellsOf k x)) (.agg cs):=by
 obtain⟨l,h3,h4,h5⟩:=h
 refine⟨mkE k l,?_⟩
 rw[lU (k:=k) (l:=l) (x:=mkE k l) (by unfold oG;rw[h3];rfl)]
 refine .agg (by simpa using h4.symm) fun j s hj=>?_
 have hlt:j<cs.size:=by
  have:=(List.getElem?_eq_some_iff.1 hj).1
  simpa[h4]using this
 exact h5 j s _ hj (by simp[Array.getD,hlt])
theorem Qp {k:Tag}{v:Value}(h:RC F own w [.r k] [v]):∃ l:List k.T,Rel F own w (.rs k l) v:=by
 obtain⟨l,h3,h4,h5⟩:=h
 obtain⟨x,r,rfl,h6,h7⟩:=kG h3
 have h8:=h5 0 x v rfl rfl
 cases x with
 |rs k' l'=>
  have:k=k':=by
   simp only[fit]at h6
   exact qy h6
  subst this
  exact⟨l',h8⟩
 |_=>simp[fit]at h6
end
end Go.Sx
end
section
namespace Go.Sx
open Go.RowKit Go.WideShapes Go.ChangeShapes
section
variable {H:Type}{enc:TypeId×Value→H}{P:Program}
def Nq (P:Program):List TypeId→Bool
 | [] =>true
 |t::r=>P.readableRec t&&Nat.blt t P.types.size&&Nq P r
theorem Bd (hl:laidOutB P=true){W W':World}(hg:Below W.heap.size W W'):∀ {ts:List TypeId} {vs:List Value} {ds:List (DataW H)} {ps:List MemPlace},Nq P ts=true→
  DataW.TrodAll enc P W 0 (fun _=>true) true ts vs ds ps→(∀ x∈ps,x.block<W.heap.size)→DataW.TrodAll enc P W' 0 (fun b=>decide (b<W.heap.size)) true ts vs ds ps
 | [],vs,ds,ps,_,h,_=>by
  obtain⟨rfl,rfl,rfl⟩:=trodAll_nil h
  exact trodAll_mk0
 |t::ts,vs,ds,ps,hk,h,hlt=>by
  unfold Nq at hk
  rw[Bool.and_eq_true,Bool.and_eq_true]at hk
  obtain⟨v,vs',d,ds',p,q,rfl,rfl,rfl,h1,h2⟩:=trodAll_cons h
  refine trodAll_cons_mk (WideElems.Trod_stays hl hk.1.1 (by simpa[Nat.blt_eq]using hk.1.2) h1 (fun x hx=>hg.same (hlt x (List.mem_append_left _ hx))) (fun x hx=>by simpa using hlt x (List.mem_append_left _ hx))) ?_
  exact Bd hl hg hk.2 h2 fun x hx=>hlt x (List.mem_append_right _ hx)
theorem K9 (hl:laidOutB P=true){f:Func}{s:ChangeSpec}{W W':World}{args:Array Value}{ds gs:List (DataW H)}{before:List MemPlace}{t:TypeId}
  (hk:Nq P f.params.toList=true) (hW:DataW.Whole enc P f.params.toList s.vars false W args.toList ds gs before)
  (hr:f.resultTypes= #[t]) (ht:P.underlying t=some .bool) (hv:s.vars=[]) (h1:(s.fn H (ds++gs)).results=[.lit (.bool true)]) (h2:(s.fn H (ds++gs)).args=ds) (h3:(s.fn H (ds++gs)).vars=[])
  (hg:Below W.heap.size W W'):s.post enc P f false true false false W args (.bool true) W':=by
 have hlt:=hW.lt
 have hW0:=hW
 obtain⟨p,q,hA,hV,rfl,_,_⟩:=hW
 rw[hv]at hV
 obtain⟨rfl,rfl⟩:=trodVars_none hV
 refine⟨ds,[],p++[],[],p,[],hW0,?_,?_,?_,?_,fun h=>by cases h⟩
 ·rw[h1,hr]
  exact trodAll_cons_mk (shut_bool ht _) trodAll_mk0
 ·rw[h2]
  exact Bd hl hg hk hA fun x hx=>hlt x (by simpa using hx)
 ·rw[h3,hv]
  rfl
 ·exact World.keptBut_mono (fun x hx=>⟨hx,.inr (.inl (by simpa using hx))⟩) (hg.frame (· ∈p++[]))
end
end Go.Sx
end
section
namespace Go.Proofs.YtagjakphhkfofaaGreat.bulks
theorem one_le {H:Type}(d:DataW H):1≤Rows.uptoBulk d:=by
 cases d with
 |lit l=>cases l <;>simp[Rows.uptoBulk]
 |nil=>simp[Rows.uptoBulk]
 |ptr d=>simp[Rows.uptoBulk]
 |slice mA spare=>simp[Rows.uptoBulk]
 |agg parts=>simp[Rows.uptoBulk]
 |iface t d=>simp[Rows.uptoBulk]
 |map entries=>simp[Rows.uptoBulk]
 |held h=>simp[Rows.uptoBulk]
theorem part_le {H:Type}{d:DataW H}{l:List (DataW H)}(h:d∈l):Rows.uptoBulk d≤Rows.uptoBulkAll l:=by
 induction l with
 |nil=>cases h
 |cons x r ih=>
  simp only[Rows.uptoBulkAll]
  cases List.mem_cons.1 h with
  |inl e=>subst e;omega
  |inr e=>have:=ih e;omega
theorem append {H:Type}(l r:List (DataW H)):Rows.uptoBulkAll (l++r)=Rows.uptoBulkAll l+Rows.uptoBulkAll r:=by
 induction l with
 |nil=>simp[Rows.uptoBulkAll]
 |cons x l ih=>simp only[List.cons_append,Rows.uptoBulkAll,ih];omega
theorem length_le {H:Type}(l:List (DataW H)):l.length≤Rows.uptoBulkAll l:=by
 induction l with
 |nil=>simp[Rows.uptoBulkAll]
 |cons x r ih=>have:=one_le x;simp only[Rows.uptoBulkAll,List.length_cons];omega
theorem slice_le {H:Type}(mA spare:List (DataW H)):mA.length+spare.length+1≤Rows.uptoBulk (.slice mA spare):=by
 have h1:=length_le mA
 have h2:=length_le spare
 simp only[Rows.uptoBulk]
 omega
theorem slice_elems {H:Type}(mA spare:List (DataW H)):Rows.uptoBulkAll mA+1≤Rows.uptoBulk (.slice mA spare):=by
 simp only[Rows.uptoBulk]
 omega
theorem bound {H:Type}{l:List (DataW H)}(hk:Rows.uptoSmall H l=true):Rows.uptoBulkAll l≤1048576:=by
 simpa[Rows.uptoSmall]using hk
theorem room {n b:Nat}(hn:n≤2097152)(hb:b≤4096):(n+n / 4+192)*b≤281474976710656:=by
 have h:(n+n / 4+192)*b≤2621632*4096:=Nat.mul_le_mul (by omega) hb
 omega
end Go.Proofs.YtagjakphhkfofaaGreat.bulks
end
section
namespace Go.Proofs.YtagjakphhkfofaaGreat.timetableSpec
open Go.ChangeShapes Go.WideShapes Go.ChangeAt Go.RowKit Go.Sx
set_option linter.unusedVariables false
theorem con_eq (x0:Tag.district.T)(x1:List Tag.claim.T):gS [.agg (cellsOf .district x0),.rs .claim x1]=some (.det (fq x0 x1) (.v (.bool (eR x0 x1)))):=by
 unfold gS
 simp only[go_sem,Nat.reduceBEq]
theorem call_true {W:World}{cs0:Array Value}(h0:RC (fun _=>False) cj W (cV .district) cs0.toList){v1:Value}(h1:RC (fun _=>False) cj W [.r .claim] [v1]):
  Calls Tryz.prog 3 #[.agg cs0,v1] W (fun e W'=>e=.returned (.bool true)∧Below W.heap.size W W'):=by
 obtain⟨x0,r0⟩:=Np h0
 obtain⟨x1,r1⟩:=Qp h1
 refine(pN.calls _ _ (con_eq x0 x1) (K7 x0 x1) (fun _=>False) W _ (fun b h=>h.elim) ⟨rfl,fun j s hj=>?_⟩).mono fun e W' he=>?_
 ·match j,hj with
  |0,hj=>cases hj;exact r0
  |1,hj=>cases hj;exact r1
 ·rcases he with⟨s,u,own',hs,rfl,hh,hb⟩ | ⟨x,hx,_⟩
  ·simp only[cX]at hs
   subst hs
   rw[K6 x0 x1]at hh
   have:=hh.val
   simp only[qG]at this
   rw[bR this]
   exact⟨rfl,hb⟩
  ·exact hx.elim
theorem own:ownKnob Tryz.prog.godebug=none:=by kernel_rfl
theorem small (H:Type):Small (fun d:DataW H=>Rows.uptoBulk d≤1048576) where
 agg l h d hd:=by
  have h1:=bulks.part_le hd
  simp only[Rows.uptoBulk]at h
  omega
 slice l m h:=by
  have h1:=bulks.slice_le l m
  have h2:=bulks.slice_elems l m
  refine⟨by unfold ba;omega,fun d hd=>?_⟩
  have:=bulks.part_le hd
  omega
theorem laid:laidOutB Tryz.prog=true:=by kernel_rfl
set_option maxRecDepth 100000 in
theorem contract (H:Type)(enc:TypeId×Value→H)(W:World)(base:Nat)(args:Array Value)(ds gs:List (DataW H))(before:List MemPlace)
  (hval:∀ (j:Nat) t v,Tryz.f3.params[j]? =some t→args[j]? =some v→Value.okWide Tryz.prog W .any base t v)
  (hW:DataW.Whole enc Tryz.prog Tryz.f3.params.toList Rows.timetableSpecSpec.vars false W args.toList ds gs before) (hk:Rows.uptoSmall H (ds++gs)=true):
  Calls Tryz.prog 3 args W fun e W'=>∃ v,e=.returned v∧Rows.timetableSpecSpec.post enc Tryz.prog Tryz.f3 false true false false W args v W':=by
 have hW':=hW
 obtain⟨p,q,hA0,hV,rfl,hfz,hnd⟩:=hW
 have hA:DataW.TrodAll enc Tryz.prog W 0 (fun _=>true) true Tryz.f3.params.toList args.toList ds p:=hA0
 rw[Tryz.params3]at hA hval
 obtain⟨v0,vs0,d0,ds0,p0,q0,hargs,rfl,rfl,h0,r0⟩:=trodAll_cons hA
 obtain⟨v1,vs1,d1,ds1,p1,q1,rfl,rfl,rfl,h1,r1⟩:=trodAll_cons r0
 obtain⟨rfl,rfl,rfl⟩:=trodAll_nil r1
 obtain rfl:args= #[v0,v1]:=by cases args;simp_all
 obtain⟨rfl,rfl⟩:=trodVars_none hV
 have hb:=bulks.bound hk
 simp only[Rows.uptoBulkAll,List.append_nil,List.cons_append,List.nil_append]at hb
 have ho:∀ b,¬bQ (fun _=>False) cj b:=fun b h=>by
  rcases h with h| ⟨_,_,h,_⟩
  ·exact h
  ·cases h
 have s0:∃ cs,v0=.agg cs:=by
  have:=hval 0 31 v0 rfl rfl
  simp only[Value.okWide,Tryz.underlying31]at this
  exact⟨_,this.choose_spec.1⟩
 obtain⟨cs0,rfl⟩:=s0
 obtain⟨a1,l1,c1,rfl⟩:=okWide_slice Tryz.underlying32 (hval 1 32 v1 rfl rfl)
 have R0:RC (fun _=>False) cj W (cV .district) cs0.toList:=by
  obtain⟨f,hf⟩:=h0
  exact nW (n:=6) (t:=31) (small H) ho _ (by kernel_rfl) f _ _ hf (by show Rows.uptoBulk d0≤_;omega)
 have R1:RC (fun _=>False) cj W [.r .claim] [.slice a1 l1 c1]:=by
  obtain⟨f,hf⟩:=h1
  exact nW (n:=6) (t:=32) (small H) ho _ (by kernel_rfl) f _ _ hf (by show Rows.uptoBulk d1≤_;omega)
 refine(call_true R0 R1).mono fun e W' ⟨he,hg⟩ =>?_
 subst he
 exact⟨_,rfl,K9 laid (by kernel_rfl) hW' (by kernel_rfl) Tryz.underlying4 rfl rfl rfl rfl hg⟩
def zeroV:Kd→Value
 | .n k=>.int k 0
 | .b=>.bool false
 | .s=>.string (ByteArray.mk #[])
 | .r _=>.slice none 0 0
 | .m _ _=>.map none
def wit:Array Value:= #[.agg ((cV .district).map zeroV).toArray,.slice none 0 0]
set_option maxRecDepth 100000 in
theorem lifted (os:Os)(started:os.Started)(H:Type)(enc:TypeId×Value→H)(F:Stop.Interp):
  ReturnsInHanded {} Tryz.checked os 3 .any ((Rows.OpenSpec.upto Rows.timetableSpecSpec).pre6 enc Tryz.prog Tryz.f3 Rows.timetableSpecUptoRow.domain false) (((Rows.OpenSpec.upto Rows.timetableSpecSpec).at F).post enc Tryz.prog Tryz.f3 false true false false):=by
 refine returnsInHanded_of_cond (C:=Tryz.checked) (s:=Rows.OpenSpec.upto Rows.timetableSpecSpec) (k:=Rows.uptoSmall) rfl own started (by kernel_rfl) Tryz.func3
  (OpenSpec.witness (enc:=enc) (C:=Tryz.checked) (s:=Rows.OpenSpec.upto Rows.timetableSpecSpec) (k:=Rows.uptoSmall) rfl false ⟨#[],wit,[]⟩ 8 (by kernel_rfl) (by kernel_rfl) (by kernel_rfl)
   (x:=(DataW.whole enc Tryz.prog (World.plainHolding Tryz.prog os ⟨#[],wit,[]⟩).memory Tryz.f3.params.toList Rows.timetableSpecSpec.vars false wit.toList 8).getD ([],[],[])) (by kernel_rfl) rfl (by kernel_rfl)) ?_
 intro W base args ds gs before hval hW _ hk _
 exact contract H enc W base args ds gs before hval hW hk
theorem over:Rows.timetableSpecUptoRow.holds Tryz.pinned (Rows.OpenSpec.upto Rows.timetableSpecSpec):=
 OpenClaim.holds_of_cond 3 Tryz.f3 rfl rfl rfl rfl rfl rfl rfl ⟨rfl,rfl,rfl,rfl,rfl⟩ rfl rfl rfl rfl rfl (by kernel_rfl) Tryz.func3 (by kernel_rfl)
  (of_decide_eq_true (by kernel_rfl)) (by unfold Func.isWrapper;first|(rw[if_pos (by decide+kernel)];kernel_rfl) |(rw[if_neg (by decide+kernel)];exact⟨rfl,rfl⟩))
  (fun os started H enc _ F=>lifted os started H enc F)
theorem proved:Rows.TimetableSpecUptoSaid:=over
end Go.Proofs.YtagjakphhkfofaaGreat.timetableSpec
end
