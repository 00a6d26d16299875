/- Part of the proof that the law JudgementSpec returns true and leaves its arguments as they were, for all arguments of bulk at most 1048576 (the Upto form). -/
import Derived.Test.YtnanafpgfihjfaaGreatJ109
import Derived.Test.YtnanafpgfihjfaaGreatJ108
import Derived.Test.YtnanafpgfihjfaaGreatJ114
import Derived.Test.YtnanafpgfihjfaaGreatJ110
import Derived.Test.YtnanafpgfihjfaaGreatJ115
import Derived.Test.YtnanafpgfihjfaaGreatJ107
import Derived.Deep.Slices
import Derived.OpenShut
import Derived.ChangeSame
import Derived.WideKeyArgs
import Derived.Below
import Derived.Test.YtnanafpgfihjfaaGreatRows
set_option linter.all false
set_option maxHeartbeats 4000000
set_option maxRecDepth 100000
section
namespace Go.Sx
open Go.Proofs

def gi (a0:District)(a1:List Claim)(a2:List Judgement)(a3:Int):Bool:=(bif(!qA)then false else(bif(!(qm a0 a1 a2))then true else((((((aS a0 a2) ==(cW a0 a2))&&(mw ((bw a0 a1 a2).1) ((fX a0 a1 a2).1)))&&((bw a0 a1 a2).2==(fX a0 a1 a2).2))&&(sV ((cB a0 a2 a3).1) ((kv a0 a2 a3).1)))&&((cB a0 a2 a3).2==(kv a0 a2 a3).2))))
def fl (a0:District)(a1:List Claim)(a2:List Judgement)(a3:Int):Prop:=((pO)∧((!qA)=false→((!(qm a0 a1 a2))=false→((dw a0 a1 a2)∧((oy a0 a1 a2)∧((gZ a0 a2 a3)∧((qO a0 a2 a3)∧((f9 a0 a2)∧((ln a0 a2)∧((((aS a0 a2) ==(cW a0 a2))=true→(nr ((bw a0 a1 a2).1) ((fX a0 a1 a2).1)))∧(((((aS a0 a2) ==(cW a0 a2))&&(mw ((bw a0 a1 a2).1) ((fX a0 a1 a2).1)))&&((bw a0 a1 a2).2==(fX a0 a1 a2).2))=true→(sp ((cB a0 a2 a3).1) ((kv a0 a2 a3).1)))))))))))))
@[go_sem] def lP:List SV→Option Con:=(pD .district fun a0=>(pR .claim fun a1=>(pR .judgement fun a2=>(pI fun a3=>(pE (.det (fl a0 a1 a2 a3) (.v (.bool (gi a0 a1 a2 a3)))))))))
theorem vD:FnOk Tryz.prog 3 lP:=by
 have hG:ConsOk Tryz.prog (mkG [(10,zl),(11,fun l=>As (a7 [.st .district,.sl .claim,.sl .judgement] l)),(12,fun l=>nK (a7 [.st .district,.sl .claim,.sl .judgement] l)),(13,fun l=>vN (a7 [.st .district,.sl .claim,.sl .judgement] l)),(14,fun l=>pw (a7 [.st .district,.sl .judgement,.o] l)),(15,fun l=>xP (a7 [.st .district,.sl .judgement,.o] l)),(16,fun l=>je (a7 [.st .district,.sl .judgement] l)),(17,fun l=>qN (a7 [.st .district,.sl .judgement] l)),(18,fun l=>vt (a7 [.sl .claim,.sl .claim] l)),(19,fun l=>yX (a7 [.sl .int,.sl .int] l))] []):=aq (cgc Dn (cgc (E9.norm [.st .district,.sl .claim,.sl .judgement]) (cgc (rz.norm [.st .district,.sl .claim,.sl .judgement]) (cgc (zT.norm [.st .district,.sl .claim,.sl .judgement]) (cgc (sY.norm [.st .district,.sl .judgement,.o]) (cgc (CD.norm [.st .district,.sl .judgement,.o]) (cgc (kG.norm [.st .district,.sl .judgement]) (cgc (sW.norm [.st .district,.sl .judgement]) (cgc (xF.norm [.sl .claim,.sl .claim]) (cgc (Df.norm [.sl .int,.sl .int]) cg0)))))))))) cg0;refine ax [.o] mixed ak hG (fn:=Tryz.f3) (c:=aa Tryz.f3) kr kr kr kr (aM fun a0=>(a8 fun a1=>(a8 fun a2=>(bt fun a3=>(ai (fun hp=>?_))))));dsimp only[ar]at hp;unfold fl at hp;refine⟨nbl rfl,L0,ah _,?_⟩
 ·unfold aa Tryz.f3;try unfold gi
  exact zq1
theorem CY (d:District)(c:List Claim)(j:List Judgement)(h:Int)(hj:JR j):fl d c j h∧gi d c j h=true:=by
 unfold fl gi;rw[Ue];cases hf:qm d c j with
 |false=>exact⟨⟨Ht,fun _ h=>by cases h⟩,rfl⟩
 |true=>
  obtain⟨f1,f2⟩:=YU hf hj;obtain⟨⟨p1,p2⟩,e1,e2⟩:=Hs hj f1 f2;refine⟨⟨Ht,fun _ _=>⟨p1,p2,(A8 d j h hj).1,(A8 d j h hj).2,zm d j,CX d j,fun _=>IU _ _,fun _=>Q0 _ _⟩⟩,?_⟩;rw[e1,e2,NJ d j h hj,tO d j hj,Ac,IV];simp
theorem Ov (d:District)(c:List Claim)(j:List Judgement)(h:Int)(hj:JR j)(_: -9223372036854775808≤h∧h≤9223372036854775807):fl d c j h:=(CY d c j h hj).1
theorem Ow (d:District)(c:List Claim)(j:List Judgement)(h:Int)(hj:JR j)(_: -9223372036854775808≤h∧h≤9223372036854775807):gi d c j h=true:=(CY d c j h hj).2
end Go.Sx
end
section
namespace Go.Sx
open Go.Deep Go.RowKit
section
variable {F:Nat→Prop}{own:Own}{w:World}
def RC (F:Nat→Prop)(own:Own)(w:World)(ks:List Kd)(cs:List Value):Prop:=
 ∃ l:List SV,uj ks l=true∧l.length=cs.length∧∀ (j:Nat) (s:SV) (v:Value),l[j]? =some s→cs[j]? =some v→Rel F own w s v
theorem Hu:∀ {a b:List Kd} {l m:List SV},uj a l=true→uj b m=true→uj (a++b) (l++m)=true
 | [],b,l,m,h1,h2=>by rw[uv h1];exact h2
 |k::a,b,l,m,h1,h2=>by
  obtain⟨x,r,rfl,e1,e2⟩:=qc h1;simp only[List.cons_append,uj,e1,Hu e2 h2,Bool.and_self]
theorem RC.nil:RC F own w [] []:=⟨[],rfl,rfl,fun j s v h=>by cases h⟩
theorem RC.app {a b:List Kd}{c d:List Value}(h1:RC F own w a c)(h2:RC F own w b d):RC F own w (a++b) (c++d):=by
 obtain⟨l,f1,n1,r1⟩:=h1;obtain⟨m,f2,n2,r2⟩:=h2;refine⟨l++m,Hu f1 f2,by simp[n1,n2],fun j s v hs hv=>?_⟩;by_cases hj:j<l.length
 ·rw[List.getElem?_append_left hj]at hs;rw[List.getElem?_append_left (by omega)]at hv;exact r1 j s v hs hv
 ·rw[List.getElem?_append_right (by omega)]at hs;rw[List.getElem?_append_right (by omega),←n1]at hv;exact r2 _ s v hs hv
theorem RC.one {k:Kd}{s:SV}{v:Value}(h1:fit k s=true)(h2:Rel F own w s v):RC F own w [k] [v]:=
 ⟨[s],by simp[uj,h1],rfl,fun j s' v' hs hv=>by
  cases j with
  |zero=>simp only[List.getElem?_cons_zero,Option.some.injEq]at hs hv;subst hs;subst hv;exact h2
  |succ j=>simp at hs⟩
end
def Uf:Kd→Kd→Bool
 | .s,.s=>true
 | .b,.b=>true
 | .n a,.n b=>decide (a=b)
 | .r a,.r b=>decide (a=b)
 | .m a c,.m b d=>decide (a=b)&&decide (c=d)
 |_,_=>false
theorem Q2:∀ {a b:Kd},Uf a b=true→a=b:=by
 intro a b h;cases a <;>cases b <;>simp_all [Uf]
def Ox:List Kd→List Kd→Bool
 | [],[] =>true
 |a::l,b::m=>Uf a b&&Ox l m
 |_,_=>false
theorem Kn:∀ {a b:List Kd},Ox a b=true→a=b
 | [],[],_=>rfl
 |a::l,b::m,h=>by
  simp only[Ox,Bool.and_eq_true]at h;rw[Q2 h.1,Kn h.2]
def CZ (P:Program)(g:TypeId→Option (List Kd)):List Field→Nat→Nat→Option (List Kd)
 | [],off,tot=>bif Nat.beq off tot then some []else none
 |f::r,off,tot=>match g f.type with
  |some a=>bif Nat.beq f.offset off&&Nat.beq a.length (P.cellsOf f.type)then(CZ P g r (off+a.length) tot).map (a++ ·)else none
  |none=>none
def IW (a:List Kd):Nat→List Kd
 |0=>[]
 |n+1=>a++IW a n
def C0 (P:Program):Nat→TypeId→Option (List Kd)
 |0,_=>none
 |n+1,t=>match P.underlying t with
  |some .bool=>some [.b]
  |some (.int k) =>some [.n k]
  |some .string=>some [.s]
  |some (.slice e) =>match FI P e,C0 P n e with
   |some k,some ks=>bif Ox ks (d_ k)&&Nat.beq (P.cellsOf e) (ae k)&&Nat.ble 1 (ae k)then some [.r k]else none
   |_,_=>none
  |some (.struct fs) =>CZ P (C0 P n) fs.toList 0 (P.cellsOf t)
  |some (.array m e) =>match C0 P n e with
   |some a=>bif Nat.beq a.length (P.cellsOf e)&&Nat.beq (P.cellsOf t) (m*a.length)then some (IW a m)else none
   |none=>none
  |_=>none
section
variable {H:Type}{enc:TypeId×Value→H}{P:Program}{F:Nat→Prop}{own:Own}{w:World}{base:Nat}{spare:Nat→Bool}{held:Bool}{S:DataW H→Prop}
theorem Ko {g:TypeId→Option (List Kd)}(hg:∀ t ks,g t=some ks→∀ (fuel:Nat) (cs:List Value) (x:DataW H×List MemPlace),DataW.trod enc P w base spare held fuel t cs=some x→S x.1→RC F own w ks cs)
  (fuel:Nat) (cs:List Value):∀ (fs:List Field) (off:Nat) (ks:List Kd),CZ P g fs off cs.length=some ks→(∀ f∈fs,∃ x,DataW.trod enc P w base spare held fuel f.type ((cs.drop f.offset).take (P.cellsOf f.type))=some x∧S x.1)→RC F own w ks (cs.drop off)
 | [],off,ks,h,_=>by
  unfold CZ at h;cases hb:Nat.beq off cs.length with
  |false=>rw[hb]at h;cases h
  |true=>
   rw[hb]at h;have:off=cs.length:=Nat.eq_of_beq_eq_true hb;subst this;cases h;rw[List.drop_length];exact RC.nil
 |f::r,off,ks,h,hx=>by
  unfold CZ at h;cases ha:g f.type with
  |none=>rw[ha]at h;cases h
  |some a=>
   rw[ha]at h;dsimp only at h;cases hb:Nat.beq f.offset off&&Nat.beq a.length (P.cellsOf f.type)with
   |false=>rw[hb]at h;cases h
   |true=>
    rw[hb]at h;simp only[cond_true,Option.map_eq_some_iff]at h;obtain⟨ks2,h2,rfl⟩:=h;rw[Bool.and_eq_true]at hb;have e1:f.offset=off:=Nat.eq_of_beq_eq_true hb.1;have e2:a.length=P.cellsOf f.type:=Nat.eq_of_beq_eq_true hb.2;obtain⟨x,hx1,hs1⟩:=hx f (by simp);have h3:=hg _ _ ha _ _ _ hx1 hs1;have h4:=Ko hg fuel cs r (off+a.length) ks2 h2 fun f hf=>hx f (by simp[hf]);have:=h3.app h4;rw[e1,←e2]at this
    rwa[←List.drop_drop,List.take_append_drop]at this
theorem Kp {e:TypeId}{a:List Kd}(ha:∀ (fuel:Nat) (cs:List Value) (x:DataW H×List MemPlace),DataW.trod enc P w base spare held fuel e cs=some x→S x.1→RC F own w a cs)
  (fuel:Nat):∀ (m:Nat) (cs:List Value),cs.length=m*a.length→(∀ i,i<m→∃ x,DataW.trod enc P w base spare held fuel e ((cs.drop (i*a.length)).take a.length)=some x∧S x.1)→RC F own w (IW a m) cs
 |0,cs,h,_=>by
  have:cs=[]:=by simpa using h
  subst this;exact RC.nil
 |m+1,cs,h,hx=>by
  obtain⟨x,hx1,hs1⟩:=hx 0 (by omega);rw[Nat.zero_mul,List.drop_zero]at hx1;have h3:=ha _ _ _ hx1 hs1;have h4:=Kp ha fuel m (cs.drop a.length) (by rw[List.length_drop,h,Nat.succ_mul];omega) fun i hi=>by
   obtain⟨x,hx2,hs2⟩:=hx (i+1) (by omega);refine⟨x,?_,hs2⟩;rw[List.drop_drop]
   rwa[Nat.succ_mul,Nat.add_comm]at hx2
  have:=h3.app h4
  rwa[List.take_append_drop]at this
structure Small (S:DataW H→Prop):Prop where
 agg:∀ l,S (.agg l)→∀ d∈l,S d
 slice:∀ l m,S (.slice l m)→l.length≤aJ∧∀ d∈l,S d
theorem qB (hS:Small S)(hown:∀ b,¬bS F own b):∀ (n:Nat) (t:TypeId) (ks:List Kd),C0 P n t=some ks→∀ (fuel:Nat) (cs:List Value) (x:DataW H×List MemPlace),DataW.trod enc P w base spare held fuel t cs=some x→S x.1→RC F own w ks cs
 |0,_,_,h,_,_,_,_,_=>by cases h
 |n+1,t,ks,h,fuel,cs,x,hx,hs=>by
  unfold C0 at h;split at h
  ·rename_i ht;cases h;obtain⟨b,rfl,rfl⟩:=DataW.trod_bool ht hx;exact RC.one (s:=.v (.bool b)) rfl (.v _)
  ·rename_i k ht;cases h;obtain⟨m,rfl,rfl,_⟩:=DataW.trod_int ht hx;exact RC.one (s:=.v (.int k m)) (by simp[fit]) (.v _)
  ·rename_i ht;cases h;obtain⟨b,rfl,rfl,_⟩:=DataW.trod_string ht hx;exact RC.one (s:=.v (.string b)) rfl (.v _)
  ·rename_i e ht;split at h
   ·rename_i k ks2 hk hks;cases hb:Ox ks2 (d_ k)&&Nat.beq (P.cellsOf e) (ae k)&&Nat.ble 1 (ae k)with
    |false=>rw[hb]at h;cases h
    |true=>
     rw[hb]at h;cases h;simp only[Bool.and_eq_true]at hb;have e1:=Kn hb.1.1;have e2:P.cellsOf e=ae k:=Nat.eq_of_beq_eq_true hb.1.2;have e3:1≤ae k:=nbl hb.2;subst e1;rcases open_slice ht hx with⟨rfl,rfl⟩ | ⟨a,len,cap,m,f2,D,Pl,rfl,hb1,hl,hm,hmm,rfl,hel⟩
     ·exact RC.one (s:=.rs k []) (by simp[fit]) .rs0
     ·have hlm:len≤m:=by subst hmm;split <;>omega
      obtain⟨hs1,hs2⟩:=hS.slice _ _ hs;simp only[List.length_map,List.length_range]at hs1;have helt:∀ i,i<len→∃ cs',cs'.length=ae k∧(∀ j v,cs'[j]? =some v→w.cell? ((a.add (i*ae k)).add j)=some v)∧RC F own w (d_ k) cs':=fun i hi=>by
       obtain⟨cs',h1,h2⟩:=hel i (by omega);have h3:=qB hS hown n e (d_ k) hks f2 cs' _ h2 (hs2 _ (List.mem_map_of_mem (List.mem_range.2 hi)));unfold World.cells? at h1;split at h1
       ·refine⟨cs',by rw[mapM_some_length h1,List.length_range,e2],fun j v hj=>?_,h3⟩;have hlt:j<P.cellsOf e:=by
         have:=(List.getElem?_eq_some_iff.1 hj).1
         rwa[mapM_some_length h1,List.length_range]at this
        have:=mapM_some_get h1 j j (by simp[hlt]);rw[e2]at this;rw[this,hj]
       ·cases h1
      by_cases h0:len=0
      ·subst h0;exact RC.one (s:=.rs k []) (by simp[fit]) .rs0
      ·have hsp:a.spot=none:=by
        obtain⟨cs',h1,h2,_⟩:=helt 0 (by omega);have:=h2 0 (cs'[0]'(by omega)) (by rw[List.getElem?_eq_getElem]);rw[Nat.zero_mul]at this;simp only[Addr.add,if_true]at this;unfold World.cell? at this;split at this
        ·cases hsp:a.spot with
         |none=>rfl
         |some q=>rw[hsp]at this;simp at this
        ·cases this
       obtain⟨ab,ao,asp⟩:=a;dsimp only at hsp;subst hsp
       haveI:Inhabited k.T:=⟨fK k⟩
       obtain⟨X,hX⟩:=choose_lt (p:=fun i (x:k.T) =>∀ (j:Nat) (s:SV),(cellsOf k x)[j]? =some s→∃ v,w.cell? ⟨ab,ao+i*ae k+j,none⟩=some v∧Rel F own w s v) (n:=len) fun i hi=>by
        obtain⟨cs',h1,h2,l,h3,h4,h5⟩:=helt i hi;refine⟨mkE k l,fun j s hj=>?_⟩;rw[qZ (k:=k) (l:=l) (x:=mkE k l) (by unfold uk;rw[h3];rfl)]at hj;have hlt:j<cs'.length:=by
         have:=(List.getElem?_eq_some_iff.1 hj).1;omega
        refine⟨cs'[j],?_,h5 j s _ hj (List.getElem?_eq_getElem hlt)⟩;have:=h2 j cs'[j] (List.getElem?_eq_getElem hlt);have hadd:∀ p q,((⟨ab,ao,none⟩:Addr).add p).add q=⟨ab,ao+p+q,none⟩:=fun p q=>by
         unfold Addr.add;by_cases hp:p=0 <;>by_cases hq:q=0 <;>simp[hp,hq]
        rwa[hadd]at this
       have hL:((List.range len).map X).length=len:=by simp
       refine RC.one (s:=.rs k ((List.range len).map X)) (by simp[fit]) ?_;have hget:∀ (i:Nat) (x:k.T),((List.range len).map X)[i]? =some x→i<len∧x=X i:=fun i x hi=>by
        obtain⟨h1,h2⟩:=List.getElem?_eq_some_iff.1 hi;rw[hL]at h1;simp only[List.getElem_map,List.getElem_range]at h2;subst h2;exact⟨h1,rfl⟩
       have:=Rel.rs (F:=F) (own:=own) (w:=w) (k:=k) (l:=(List.range len).map X) (b:=ab) (o:=ao) (cap:=cap) (fun i j=>(w.cell? ⟨ab,ao+i*ae k+j,none⟩).getD undef) (by rw[hL];exact hl) (by rw[hL];exact hs1)
        (fun i x hi j s hj=>by
         obtain⟨h1,rfl⟩:=hget i x hi;obtain⟨v,h2,_⟩:=hX i h1 j s hj;exact⟨hown _,by rw[h2];rfl⟩)
        (fun i x hi j s hj=>by
         obtain⟨h1,rfl⟩:=hget i x hi;obtain⟨v,h2,h3⟩:=hX i h1 j s hj;rw[h2];exact h3)
       rwa[hL]at this
   ·cases h
  ·rename_i fs ht;obtain⟨xs,m,rfl,rfl,hl,hlen,hf⟩:=DataW.trod_struct ht hx;rw[←hl]at h;have:=Ko (qB hS hown n) m cs fs.toList 0 ks h fun f hfm=>by
    obtain⟨i,hi,rfl⟩:=List.getElem_of_mem hfm;have hi':i<fs.size:=by simpa using hi
    have h1:=hf i fs[i] (by simp[hi']);rw[List.getElem?_eq_getElem (by omega)]at h1;refine⟨_,by simpa using h1,hS.agg _ hs _ (List.mem_map_of_mem (List.getElem_mem _))⟩
   simpa using this
  ·rename_i m e ht;split at h
   ·rename_i a ha;cases hb:Nat.beq a.length (P.cellsOf e)&&Nat.beq (P.cellsOf t) (m*a.length)with
    |false=>rw[hb]at h;cases h
    |true=>
     rw[hb]at h;cases h;rw[Bool.and_eq_true]at hb;have e1:a.length=P.cellsOf e:=Nat.eq_of_beq_eq_true hb.1;have e2:P.cellsOf t=m*a.length:=Nat.eq_of_beq_eq_true hb.2;obtain⟨xs,f2,rfl,rfl,hl,hlen,hf⟩:=DataW.trod_array ht hx;refine Kp (qB hS hown n e a ha) f2 m cs (by rw[hl,e2]) fun i hi=>?_;have h1:=hf i hi;rw[List.getElem?_eq_getElem (by omega),←e1]at h1;exact⟨_,h1,hS.agg _ hs _ (List.mem_map_of_mem (List.getElem_mem _))⟩
   ·cases h
  ·cases h
end
theorem Oy {H:Type}{enc:TypeId×Value→H}{P:Program}{w:World}{base:Nat}{spare:Nat→Bool}{held:Bool}{F:Nat→Prop}{own:Own}{t e:TypeId}{fs:Array Field}{f:Field}(ht:P.underlying t=some (.slice e))(he:P.underlying e=some (.struct fs))(hf:fs[8]? =some f)(ho:f.offset=8)(hg:P.underlying f.type=some (.int .i64))(hs1:P.cellsOf f.type=1)(hc:P.cellsOf e=9)
  {fuel:Nat} {v:Value} {x:DataW H×List MemPlace} (hx:DataW.trod enc P w base spare held fuel t [v]=some x) (l:List Tag.judgement.T) (hr:Rel F own w (.rs .judgement l) v):∀ y∈(show List Judgement from l),(-9223372036854775808:Int)≤y.of_∧y.of_<9223372036854775808:=by
 intro y hy;rcases open_slice ht hx with⟨h0,_⟩ | ⟨a,len,cap,m,f2,D,Pl,h0,hb1,hl,hm,hmm,_,hel⟩
 ·simp only[List.cons.injEq,and_true]at h0;subst h0;cases hr;cases hy
 ·simp only[List.cons.injEq,and_true]at h0;subst h0;cases hr with
  |rs0=>cases hy
  | @rs _ _ b o _ c h1 h2 h3 h4=>
   obtain⟨i,hi,rfl⟩:=List.getElem_of_mem hy;have hlm:l.length≤m:=by subst hmm;split <;>omega
   obtain⟨cs',g1,g2⟩:=hel i (by have:i<l.length:=hi;omega);obtain⟨xs,m2,rfl,_,hl2,hlen,hfl⟩:=DataW.trod_struct he g2;have h8:=hfl 8 f hf;have hlt:8<fs.size:=(Array.getElem?_eq_some_iff.1 hf).1;have e1:l[i]? =some (l[i]'hi):=List.getElem?_eq_getElem hi;have k1:=(h3 i _ e1 8 _ rfl).2;have k2:=h4 i _ e1 8 _ rfl;rw[hc]at g1;unfold World.cells? at g1;split at g1
   ·have h9:=mapM_some_length g1;have:=mapM_some_get g1 8 8 (by simp);have hadd:((⟨b,o,none⟩:Addr).add (i*9)).add 8=⟨b,o+i*9+8,none⟩:=by
     unfold Addr.add;by_cases hp:i*9=0
     ·simp only[if_pos hp];simp[hp]
     ·simp only[if_neg hp];simp
    rw[hadd]at this;have k1':w.cell? ⟨b,o+i*9+8,none⟩=some (c i 8):=k1;rw[k1']at this;have hcs:(cs'.drop 8).take 1=[c i 8]:=by
     rw[List.length_range]at h9;have hlt8:8<cs'.length:=by omega
     have hd:cs'.drop 8=cs'[8]::cs'.drop 9:=List.drop_eq_getElem_cons hlt8;rw[List.getElem?_eq_getElem hlt8,Option.some.injEq]at this;rw[hd,this];rfl
    rw[ho,hs1,hcs,List.getElem?_eq_getElem (by omega)]at h8;obtain⟨n,hn,_,hw⟩:=DataW.trod_int hg h8;simp only[List.cons.injEq,and_true]at hn;rw[bC k2]at hn;simp only[Value.int.injEq,true_and]at hn;subst hn;simp[Lit.wf,IntKind.min,IntKind.max,IntKind.signed,IntKind.bits]at hw;exact⟨hw.1,Int.lt_of_le_of_lt hw.2 (by decide)⟩
   ·cases g1
end Go.Sx
end
section
namespace Go.Sx
open Go.Proofs
section
variable {F:Nat→Prop}{own:Own}{w:World}
theorem Q3 {k:Tag}{cs:Array Value}(h:RC F own w (d_ k) cs.toList):∃ x:k.T,Rel F own w (.agg (cellsOf k x)) (.agg cs):=by
 obtain⟨l,h3,h4,h5⟩:=h;refine⟨mkE k l,?_⟩;rw[qZ (k:=k) (l:=l) (x:=mkE k l) (by unfold uk;rw[h3];rfl)];refine .agg (by simpa using h4.symm) fun j s hj=>?_;have hlt:j<cs.size:=by
  have:=(List.getElem?_eq_some_iff.1 hj).1;simpa[h4]using this
 exact h5 j s _ hj (by simp[Array.getD,hlt])
theorem Oz {k:Tag}{v:Value}(h:RC F own w [.r k] [v]):∃ l:List k.T,Rel F own w (.rs k l) v:=by
 obtain⟨l,h3,h4,h5⟩:=h;obtain⟨x,r,rfl,h6,h7⟩:=qc h3;have h8:=h5 0 x v rfl rfl;cases x with
 |rs k' l'=>
  have:k=k':=by
   simp only[fit]at h6;exact ut h6
  subst this;exact⟨l',h8⟩
 |_=>simp[fit]at h6
end
end Go.Sx
end
section
namespace Go.Sx
open Go.ChangeShapes Go.RowKit Go.WideShapes
section
variable {H:Type}{enc:TypeId×Value→H}{P:Program}
def Q4 (P:Program):List TypeId→Bool
 | [] =>true
 |t::r=>P.readableRec t&&Nat.blt t P.types.size&&Q4 P r
theorem Ek (hl:laidOutB P=true){W W':World}(hg:Below W.heap.size W W'):∀ {ts:List TypeId} {vs:List Value} {ds:List (DataW H)} {ps:List MemPlace},Q4 P ts=true→
  DataW.TrodAll enc P W 0 (fun _=>true) true ts vs ds ps→(∀ x∈ps,x.block<W.heap.size)→DataW.TrodAll enc P W' 0 (fun b=>decide (b<W.heap.size)) true ts vs ds ps
 | [],vs,ds,ps,_,h,_=>by
  obtain⟨rfl,rfl,rfl⟩:=trodAll_nil h;exact trodAll_mk0
 |t::ts,vs,ds,ps,hk,h,hlt=>by
  unfold Q4 at hk;rw[Bool.and_eq_true,Bool.and_eq_true]at hk;obtain⟨v,vs',d,ds',p,q,rfl,rfl,rfl,h1,h2⟩:=trodAll_cons h;refine trodAll_cons_mk (WideElems.Trod_stays hl hk.1.1 (by simpa[Nat.blt_eq]using hk.1.2) h1 (fun x hx=>hg.same (hlt x (List.mem_append_left _ hx))) (fun x hx=>by simpa using hlt x (List.mem_append_left _ hx))) ?_;exact Ek hl hg hk.2 h2 fun x hx=>hlt x (List.mem_append_right _ hx)
theorem OA (hl:laidOutB P=true){f:Func}{s:ChangeSpec}{W W':World}{args:Array Value}{ds gs:List (DataW H)}{before:List MemPlace}{t:TypeId}
  (hk:Q4 P f.params.toList=true) (hW:DataW.Whole enc P f.params.toList s.vars false W args.toList ds gs before)
  (hr:f.resultTypes= #[t]) (ht:P.underlying t=some .bool) (hv:s.vars=[]) (h1:(s.fn H (ds++gs)).results=[.lit (.bool true)]) (h2:(s.fn H (ds++gs)).args=ds) (h3:(s.fn H (ds++gs)).vars=[])
  (hg:Below W.heap.size W W'):s.post enc P f false true false false W args (.bool true) W':=by
 have hlt:=hW.lt;have hW0:=hW;obtain⟨p,q,hA,hV,rfl,_,_⟩:=hW;rw[hv]at hV;obtain⟨rfl,rfl⟩:=trodVars_none hV;refine⟨ds,[],p++[],[],p,[],hW0,?_,?_,?_,?_,fun h=>by cases h⟩
 ·rw[h1,hr];exact trodAll_cons_mk (shut_bool ht _) trodAll_mk0
 ·rw[h2];exact Ek hl hg hk hA fun x hx=>hlt x (by simpa using hx)
 ·rw[h3,hv];rfl
 ·exact World.keptBut_mono (fun x hx=>⟨hx,.inr (.inl (by simpa using hx))⟩) (hg.frame (· ∈p++[]))
end
end Go.Sx
end
section
namespace Go.Proofs.YtnanafpgfihjfaaGreat.bulks
theorem one_le {H:Type}(d:DataW H):1≤Rows.uptoBulk d:=by
 cases d with
 |lit l=>cases l <;>simp[Rows.uptoBulk]
 |nil=>simp[Rows.uptoBulk]
 |ptr d=>simp[Rows.uptoBulk]
 |slice r7 spare=>simp[Rows.uptoBulk]
 |agg parts=>simp[Rows.uptoBulk]
 |iface t d=>simp[Rows.uptoBulk]
 |map entries=>simp[Rows.uptoBulk]
 |held h=>simp[Rows.uptoBulk]
theorem part_le {H:Type}{d:DataW H}{l:List (DataW H)}(h:d∈l):Rows.uptoBulk d≤Rows.uptoBulkAll l:=by
 induction l with
 |nil=>cases h
 |cons x r ih=>
  simp only[Rows.uptoBulkAll];cases List.mem_cons.1 h with
  |inl e=>subst e;omega
  |inr e=>have:=ih e;omega
theorem append {H:Type}(l r:List (DataW H)):Rows.uptoBulkAll (l++r)=Rows.uptoBulkAll l+Rows.uptoBulkAll r:=by
 induction l with
 |nil=>simp[Rows.uptoBulkAll]
 |cons x l ih=>simp only[List.cons_append,Rows.uptoBulkAll,ih];omega
theorem length_le {H:Type}(l:List (DataW H)):l.length≤Rows.uptoBulkAll l:=by
 induction l with
 |nil=>simp[Rows.uptoBulkAll]
 |cons x r ih=>have:=one_le x;simp only[Rows.uptoBulkAll,List.length_cons];omega
theorem slice_le {H:Type}(r7 spare:List (DataW H)):r7.length+spare.length+1≤Rows.uptoBulk (.slice r7 spare):=by
 have h1:=length_le r7;have h2:=length_le spare;simp only[Rows.uptoBulk];omega
theorem slice_elems {H:Type}(r7 spare:List (DataW H)):Rows.uptoBulkAll r7+1≤Rows.uptoBulk (.slice r7 spare):=by
 simp only[Rows.uptoBulk];omega
theorem bound {H:Type}{l:List (DataW H)}(hk:Rows.uptoSmall H l=true):Rows.uptoBulkAll l≤1048576:=by
 simpa[Rows.uptoSmall]using hk
theorem room {n b:Nat}(hn:n≤2097152)(hb:b≤4096):(n+n / 4+192)*b≤281474976710656:=by
 have h:(n+n / 4+192)*b≤2621632*4096:=Nat.mul_le_mul (by omega) hb;omega
end Go.Proofs.YtnanafpgfihjfaaGreat.bulks
end
