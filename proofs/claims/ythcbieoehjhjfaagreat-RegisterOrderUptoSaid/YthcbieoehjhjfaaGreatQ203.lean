/- Part of the proof that the law RegisterOrder returns true and leaves its arguments as they were, for all arguments of bulk at most 1048576 (the Upto form). -/
import Derived.Test.YthcbieoehjhjfaaGreatQ202
import Derived.Laws.IdiomRangeMap
set_option linter.all false
set_option maxHeartbeats 4000000
set_option maxRecDepth 100000
section
namespace Go.Sx
open Go.RowKit
section
variable {P:Program}{F:Nat->Prop}{own:Own}{w:World}
theorem zv:∀ {l m:List SV},lC l m=true->∀ {vs:Array Value},RelL F own w m vs->RelL F own w l vs:=by
 have one:∀ {a b:SV} {v:Value},AB a b=true->Rel F own w b v->Rel F own w a v:=by
  intro a b v h hr;unfold AB at h;split at h
  ·rename_i k x k' y;simp only[Bool.and_eq_true]at h;have hk:=zk h.1;subst hk;have h2:=h.2;split at h2
   ·exact hr
   ·cases h2
  ·rename_i x y;simp only[Bool.and_eq_true]at h;have e1:=Nat.eq_of_beq_eq_true h.1;have e2:=Nat.eq_of_beq_eq_true h.2;have:x=y:=by
    obtain⟨⟨x⟩⟩:=x;obtain⟨⟨y⟩⟩:=y;have e1':x.length=0:=e1;have e2':y.length=0:=e2;rw[List.length_eq_zero_iff]at e1' e2';rw[e1',e2']
   rw[this];exact hr
  ·exact hr
  ·have:=bo hr;subst this;exact .rs0
  ·have:=bo hr;subst this;exact .rm0
  ·exact hr
  ·cases h
 intro l m h vs hr;have len:∀ {l m:List SV},lC l m=true->l.length=m.length:=by
  intro l;induction l with
  |nil=>intro m h;cases m with
   |nil=>rfl
   |cons _ _=>simp[lC]at h
  |cons a l ih=>intro m h;cases m with
   |nil=>simp[lC]at h
   |cons b m=>simp[lC]at h;simp[ih h.2]
 have get:∀ {l m:List SV} (j:Nat) (s:SV),lC l m=true->l[j]? =some s->∃ b,m[j]? =some b/\AB s b=true:=by
  intro l;induction l with
  |nil=>intro m j s h hs;simp at hs
  |cons a l ih=>
   intro m j s h hs;cases m with
   |nil=>simp[lC]at h
   |cons b m=>
    simp[lC]at h;cases j with
    |zero=>simp at hs;subst hs;exact⟨b,rfl,h.1⟩
    |succ j=>simp at hs;simpa using ih j s h.2 hs
 refine⟨by rw[len h];exact hr.1,fun j s hs=>?_⟩;obtain⟨b,h1,h2⟩:=get j s h hs;exact one h2 (hr.2 j b h1)
theorem AT {a b:Bool}(h:qt a b=true):a=b:=by cases a <;>cases b <;>simp[qt]at h |-
theorem qC {t:TypeId}{i:TypeInfo}{k:Tag}(h:oo P t i=some k):qu P t i k=true:=by
 unfold oo at h;split at h
 ·rename_i k' _;cases hb:qu P t i k' with
  |false=>rw[hb]at h;cases h
  |true=>rw[hb]at h;simp at h;subst h;exact hb
 ·cases h
theorem pw {t:TypeId}{i:TypeInfo}{k:Tag}(h:oo P t i=some k):i.size=aa k/\1<=i.bytes/\fJ P t=iH k/\∀ z,i.zero=some z->RelL F own w (cellsOf k (di k)) z.cells/\sq z=iH k:=by
 have hf:=qC h;simp only[qu,Bool.and_eq_true]at hf;refine⟨Nat.eq_of_beq_eq_true hf.1.1.1.2,nbl hf.1.1.2,AT hf.2,fun z hz=>?_⟩;have h1:=hf.1.2;have h2:=hf.1.1.1.1;rw[hz]at h1 h2;exact⟨zv h1 (nN z),AT h2⟩
theorem qD {t:TypeId}{k:Tag}(h:xv P t=some k):∃ i,P.info? t=some i/\oo P t i=some k:=by
 unfold xv at h;split at h
 ·rename_i i hi;exact⟨i,hi,h⟩
 ·cases h
theorem oP {d:Int}{o:Option SV}{v:Option Value}(hv:∀ s,o=some s->∃ u,v=some u/\Rel F own w s u)(hn:o=none->v=none){n:Int}(h:bnd d o=some n):(v=none/\n=d)\/∃ k,v=some (.int k n):=by
 unfold bnd at h;split at h
 ·simp at h;exact .inl ⟨hn rfl,h.symm⟩
 ·rename_i k m;simp at h;subst h;obtain⟨u,h1,h2⟩:=hv _ rfl;have:=bo h2;subst this;exact .inr ⟨k,h1⟩
 ·cases h
theorem e_ {k:IntKind}{n:Int}{y:Nat}{code:BoundsCode}(h:0<=n/\n<=(y:Int)):(Instr.sliceBound (.int k n) y code).run P w=.ok n.toNat w:=by
 simp only[Instr.sliceBound,Sem.run_bind,ll,Result.andThen_ok];rw[Sem.run_ite,if_pos h];rfl
theorem fj {len cap:Nat}{lo hi:Option Value}{a b:Int}(hlo:(lo=none/\a=0)\/∃ k,lo=some (.int k a))(hhi:(hi=none/\b=(len:Int))\/∃ k,hi=some (.int k b))(h:0<=a/\a<=b/\b<=(len:Int))(hc:len<=cap):
  (Instr.sliceBounds true len cap lo hi none).run P w=.ok (a.toNat,b.toNat,cap) w:=by
 rcases hhi with⟨rfl,rfl⟩ | ⟨k2,rfl⟩ <;>rcases hlo with⟨rfl,rfl⟩ | ⟨k1,rfl⟩
 ·simp[Instr.sliceBounds]
 ·simp[Instr.sliceBounds,e_ (P:=P) (w:=w) (k:=k1) (n:=a) (y:=len) ⟨h.1,h.2.1⟩]
 ·simp[Instr.sliceBounds,e_ (P:=P) (w:=w) (k:=k2) (n:=b) (y:=cap) ⟨by omega,by omega⟩]
 ·simp[Instr.sliceBounds,e_ (P:=P) (w:=w) (k:=k2) (n:=b) (y:=cap) ⟨by omega,by omega⟩,e_ (P:=P) (w:=w) (k:=k1) (n:=a) (y:=b.toNat) ⟨h.1,by omega⟩]
theorem B8 {h:List Ob}(hp:Hp F own w h){nx:Nat}(hn:NxOk own h nx){t:TypeId}{ti te:TI}(ht:cr P t=some ti)(hte:cr P ti.elem=some te){s:SV}{v:Value}(hr:Rel F own w s v){lo hi:Option SV}{vlo vhi:Option Value}
  (h1:∀ s,lo=some s->∃ u,vlo=some u/\Rel F own w s u) (h1':lo=none->vlo=none) (h2:∀ s,hi=some s->∃ u,vhi=some u/\Rel F own w s u) (h2':hi=none->vhi=none) {r:OR} {vq:Bool} (hvq:vq=true->hi=none) (he:gR ti te.size nx h lo hi vq s=r) (hne:r≠ .bad):
  (∃ c s',r=.chk c s'/\(c->∃ u,(Instr.sliceAt t v vlo vhi none).run P w=.ok u w/\Rel F own w s' u))\/ru F own w h ((Instr.sliceAt t v vlo vhi none).run P w) r:=by
 obtain⟨i,d,z,hi',hd,hz,hq,rfl⟩:=aY ht;obtain⟨ie,de,ze,hie,hde,hze,hqe,hte'⟩:=aY hte;have hes:te.size=ie.size:=by rw[hte'];rfl
 have slice:(ci P t i d).isSlice=true->∃ e,d=.slice e/\P.info? e=some ie:=fun hs=>by
  cases d <;>simp[ci]at hs;exact⟨_,rfl,by simpa[ci]using hie⟩
 cases hr with
 |rs cf q0 q0' q1 q2=>
  rename_i k l b o cap;left;simp only[gR]at he;cases hb:(ci P t i d).isSlice&&Nat.beq te.size (aa k)with
  |false=>rw[hb]at he;exact absurd he.symm hne
  |true=>
   rw[hb]at he;simp only[cond_true]at he;simp only[Bool.and_eq_true]at hb;obtain⟨e,rfl,hie'⟩:=slice hb.1;have hsz:=Nat.eq_of_beq_eq_true hb.2;unfold Da at he;split at he
   ·rename_i a c ha hc;refine⟨_,_,he.symm,fun hcnd=>?_⟩;have b1:=oP h1 h1' ha;have b2:=oP h2 h2' hc;have hbd:=fj (P:=P) (w:=w) b1 b2 hcnd q0;have hlen:((l.take c.toNat).drop a.toNat).length=c.toNat - a.toNat:=by simp;omega
    refine⟨.slice (if cap=a.toNat then some ⟨b,o,none⟩else some ⟨b,o+a.toNat*ie.size,none⟩) (c.toNat - a.toNat) (cap - a.toNat),?_,?_⟩
    ·simp only[Instr.sliceAt,Instr.slice,Sem.run_bind,run_underlying hd,Result.andThen_ok,hbd,cm hie',Sem.run_pure,Option.map_some,il]
    ·rw[<-hlen];by_cases hca:cap=a.toNat
     ·have:(l.take c.toNat).drop a.toNat=[]:=List.eq_nil_of_length_eq_zero (by rw[hlen];omega);rw[this];exact .rs0
     ·rw[if_neg hca];refine Rel.rs (F:=F) (own:=own) (w:=w) (fun i j=>cf (a.toNat+i) j) (by rw[hlen];omega) (by rw[hlen];omega) (fun i x hx j s hj=>?_) (fun i x hx j s hj=>?_)
      ·obtain⟨e1,e2⟩:=jz hx;have:=q1 _ x e1 j s hj;rw[<-hes,hsz,show o+a.toNat*aa k+i*aa k+j=o+(a.toNat+i)*aa k+j by rw[Nat.add_mul];omega];exact this
      ·obtain⟨e1,e2⟩:=jz hx;exact q2 _ x e1 j s hj
   ·exact absurd he.symm hne
 |rs0=>
  rename_i k a0 cap;left;simp only[gR]at he;cases hb:(ci P t i d).isSlice&&Nat.beq te.size (aa k)with
  |false=>rw[hb]at he;exact absurd he.symm hne
  |true=>
   rw[hb]at he;simp only[cond_true]at he;simp only[Bool.and_eq_true]at hb;obtain⟨e,rfl,hie'⟩:=slice hb.1;unfold Da at he;split at he
   ·rename_i a c ha hc;refine⟨_,_,he.symm,fun hcnd=>?_⟩;have b1:=oP h1 h1' ha;have b2:=oP h2 h2' hc;have hbd:=fj (P:=P) (w:=w) (cap:=cap) b1 b2 hcnd (Nat.zero_le _);simp only[List.length_nil,Int.ofNat_zero]at hcnd;have ea:a=0:=by omega
    have ec:c=0:=by omega
    subst ea;subst ec;refine⟨_,by
     simp only[Instr.sliceAt,Instr.slice,Sem.run_bind,run_underlying hd,Result.andThen_ok];simp only[List.length_nil,Int.toNat_zero]at hbd;simp only[hbd,Result.andThen_ok,Sem.run_bind,cm hie',Sem.run_pure];rfl,?_⟩
    simp only[List.take_nil,List.drop_nil];exact .rs0
   ·exact absurd he.symm hne
 |os g1 g2=>
  rename_i id hdd;simp only[gR]at he;cases hb:(ci P t i d).isSlice with
  |false=>rw[hb]at he;exact absurd he.symm hne
  |true=>
   rw[hb]at he;simp only[cond_true]at he;obtain⟨e,rfl,hie'⟩:=slice hb;cases vq with
   |true=>
    left;simp only[cond_true]at he;cases ho:ae h id with
    |row k l=>
     rw[ho]at he;simp only[AJ]at he;cases hb2:Nat.beq te.size (aa k)with
     |false=>rw[hb2]at he;exact absurd he.symm hne
     |true=>
      rw[hb2]at he;simp only[cond_true]at he;unfold Dc at he;split at he
      ·rename_i a ha;refine⟨_,_,he.symm,fun hcnd=>?_⟩;obtain⟨hd',e0,e1⟩:=hp.at ho rfl;rw[g1]at e0;cases e0;have b1:=oP h1 h1' ha;have b2:(vhi=none/\(l.length:Int)=(l.length:Int))\/∃ k,vhi=some (.int k (l.length:Int)):=.inl ⟨h2' (hvq rfl),rfl⟩;have hcnd':0<=a/\a<=(l.length:Int)/\(l.length:Int)<=(l.length:Int):=⟨hcnd.1,hcnd.2,Int.le_refl _⟩;rcases e1 with⟨a0,m1,rfl,m3⟩ | ⟨b,o,cap,cs,ty,m1,m2,m3,m4,m5,m6,m7⟩
       ·simp only[List.length_nil,Int.ofNat_zero]at hcnd;have ea:a=0:=by omega
        subst ea;have hbd:=fj (P:=P) (w:=w) (cap:=0) b1 b2 hcnd' (Nat.zero_le _);simp only[List.length_nil,Int.toNat_zero,Int.ofNat_zero]at hbd;refine⟨.slice a0 0 0,?_,Rel.vw (lo:=0) (hi:=(([]:List k.T).length:Int)) (cap:=0) (a:=a0) g1 (.inl (by simp)) (by simp)⟩;rw[m1];simp only[Instr.sliceAt,Instr.slice,Sem.run_bind,run_underlying hd,Result.andThen_ok,hbd,cm hie',Sem.run_pure];rfl
       ·have hbd:=fj (P:=P) (w:=w) b1 b2 hcnd' m5;refine⟨.slice (if cap=a.toNat then some ⟨b,o,none⟩else some ⟨b,o+a.toNat*ie.size,none⟩) ((l.length:Int).toNat - a.toNat) (cap - a.toNat),?_,Rel.vw g1 ?_ (by omega)⟩
        ·rw[m1];simp only[Instr.sliceAt,Instr.slice,Sem.run_bind,run_underlying hd,Result.andThen_ok,hbd,cm hie',Sem.run_pure,Option.map_some,il]
        ·by_cases hca:cap=a.toNat
         ·exact .inl (by omega)
         ·rw[if_neg hca];exact .inr ⟨b,o,_,cap,m1,by omega,by rw[hes]⟩
      ·exact absurd he.symm hne
    |_=>rw[ho]at he;exact absurd he.symm hne
   |false=>
   right;simp only[cond_false]at he;cases ho:ae h id with
   |row k l=>
    rw[ho]at he;simp only[Db]at he;cases hb2:Nat.beq te.size (aa k)with
    |false=>rw[hb2]at he;exact absurd he.symm hne
    |true=>
     rw[hb2]at he;simp only[cond_true]at he;have hsz:=Nat.eq_of_beq_eq_true hb2;unfold FO at he;split at he
     ·rename_i a c ha hc;subst he;obtain⟨hd',e0,e1⟩:=hp.at ho rfl;rw[g1]at e0;cases e0;have b1:=oP h1 h1' ha;have b2:=oP h2 h2' hc;refine⟨_,_,_,_,rfl,fun hcnd=>⟨trivial,?_⟩⟩;have hK:∀ id'∈[id],∃ hd,own id'=some hd:=by simp;exact⟨_,g1⟩
      have hlen:((l.take c.toNat).drop a.toNat).length=c.toNat - a.toNat:=by simp;omega
      rcases e1 with⟨a0,m1,rfl,m3⟩ | ⟨b,o,cap,cs,ty,m1,m2,m3,m4,m5,m6,m7⟩
      ·simp only[List.length_nil,Int.ofNat_zero]at hcnd;have ea:a=0:=by omega
       have ec:c=0:=by omega
       subst ea;subst ec;have hbd:=fj (P:=P) (w:=w) (cap:=0) b1 b2 hcnd (Nat.zero_le _);simp only[List.length_nil,Int.toNat_zero]at hbd;refine⟨.slice a0 0 0,_,w,?_,?_,eM hp hn [id] hK ⟨none,.slice a0 0 0,[],[]⟩ _ (fun b hb=>by simp at hb) (fun _ _ _=>rfl) (Nat.le_refl _) rfl rfl rfl fun own' g=>.inl ⟨a0,rfl,rfl,rfl⟩⟩
       ·rw[m1];simp only[Instr.sliceAt,Instr.slice,Sem.run_bind,run_underlying hd,Result.andThen_ok,hbd,cm hie',Sem.run_pure];rfl
       ·have:=Rel.os (F:=F) (own:=own.move [id] nx ⟨none,.slice a0 0 0,[],[]⟩) (w:=w) (id:=nx) (hd:=⟨none,.slice a0 0 0,[],[]⟩) (by simp[Own.move]) rfl;exact this
      ·have hbd:=fj (P:=P) (w:=w) b1 b2 hcnd m5;have hrun:(Instr.sliceAt t hdd.v vlo vhi none).run P w=.ok (.slice (if cap=a.toNat then some ⟨b,o,none⟩else some ⟨b,o+a.toNat*ie.size,none⟩) (c.toNat - a.toNat) (cap - a.toNat)) w:=by
        rw[m1];simp only[Instr.sliceAt,Instr.slice,Sem.run_bind,run_underlying hd,Result.andThen_ok,hbd,cm hie',Sem.run_pure,Option.map_some,il]
       by_cases hca:cap=a.toNat
       ·have hnil:(l.take c.toNat).drop a.toNat=[]:=List.eq_nil_of_length_eq_zero (by rw[hlen];omega);rw[if_pos hca,show c.toNat - a.toNat=0 by omega,show cap - a.toNat=0 by omega]at hrun;refine⟨_,_,w,hrun,?_,eM hp hn [id] hK ⟨none,.slice (some ⟨b,o,none⟩) 0 0,[],[]⟩ _ (fun b hb=>by simp at hb) (fun _ _ _=>rfl) (Nat.le_refl _) rfl rfl rfl fun own' g=>.inl ⟨_,rfl,hnil,rfl⟩⟩;exact Rel.os (F:=F) (own:=own.move [id] nx ⟨none,.slice (some ⟨b,o,none⟩) 0 0,[],[]⟩) (w:=w) (id:=nx) (hd:=⟨none,.slice (some ⟨b,o,none⟩) 0 0,[],[]⟩) (by simp[Own.move]) rfl
       ·rw[if_neg hca,<-hlen]at hrun;refine⟨_,_,w,hrun,Rel.os (F:=F) (own:=own.move [id] nx ⟨none,.slice (some ⟨b,o+a.toNat*ie.size,none⟩) ((l.take c.toNat).drop a.toNat).length (cap - a.toNat),[],[b]⟩) (w:=w) (id:=nx) (hd:=⟨none,.slice (some ⟨b,o+a.toNat*ie.size,none⟩) ((l.take c.toNat).drop a.toNat).length (cap - a.toNat),[],[b]⟩) (by simp[Own.move]) rfl,eM hp hn [id] hK _ _ (fun b' hb'=>by simp at hb';subst hb';exact .inl ⟨id,by simp,hdd,g1,by simp[m2]⟩) (fun _ _ _=>rfl) (Nat.le_refl _) rfl rfl rfl fun own' g=>.inr ⟨b,o+a.toNat*ie.size,cap - a.toNat,cs,ty,rfl,rfl,m3,?_,by rw[hlen];omega,by rw[hlen];omega,fun i x hx j s hj=>?_⟩⟩
        ·rw[<-hes,hsz];have:cap*aa k=a.toNat*aa k+(cap - a.toNat)*aa k:=by rw[<-Nat.add_mul];congr 1;omega
         omega
        ·obtain⟨e1,e2⟩:=jz hx;obtain⟨u,n1,n2⟩:=m7 _ x e1 j s hj;refine⟨u,?_,n2.mono g⟩;rw[<-hes,hsz,show o+a.toNat*aa k+i*aa k+j=o+(a.toNat+i)*aa k+j by rw[Nat.add_mul];omega];exact n1
     ·exact absurd he.symm hne
   |_=>rw[ho]at he;exact absurd he.symm hne
 |_=>simp only[gR]at he;exact absurd he.symm hne
theorem Dy {t:TypeId}{ti te:TI}(ht:cr P t=some ti)(hte:cr P ti.elem=some te){s sm:SV}{v vm:Value}(hr:Rel F own w s v)(hm:Rel F own w sm vm){lo hi:Option SV}{vlo vhi:Option Value}
  (h1':lo=none->vlo=none) (h2:∀ s,hi=some s->∃ u,vhi=some u/\Rel F own w s u) {r:OR} (he:sG ti lo hi sm s=r) (hne:r≠ .bad):
  ∃ c s',(r=.val s'/\c\/r=.chk c s')/\(c->∃ u,(Instr.sliceAt t v vlo vhi (some vm)).run P w=.ok u w/\Rel F own w s' u):=by
 obtain⟨i,d,z,hi',hd,hz,hq,rfl⟩:=aY ht;obtain⟨ie,de,ze,hie,hde,hze,hqe,hte'⟩:=aY hte;have slice:(ci P t i d).isSlice=true->∃ e,d=.slice e/\P.info? e=some ie:=fun hs=>by
  cases d <;>simp[ci]at hs;exact⟨_,rfl,by simpa[ci]using hie⟩
 unfold sG at he;split at he
 ·rename_i k l;unfold H3 at he;split at he
  ·rename_i a b;cases hb:(ci P t i d).isSlice with
   |false=>rw[hb]at he;exact absurd he.symm hne
   |true=>
    rw[hb]at he;simp only[cond_true]at he;obtain⟨e,rfl,hie'⟩:=slice hb;obtain⟨u,rfl,e3⟩:=h2 _ rfl;obtain rfl:=h1' rfl;obtain rfl:=bo hm;obtain rfl:=bo e3;refine⟨_,_,.inr he.symm,fun⟨ha,hb⟩ =>?_⟩;subst ha;subst hb;have hcap:∃ a cap,v=.slice a l.length cap/\l.length<=cap/\Rel F own w (.rs k l) (.slice a l.length l.length):=by
     cases hr with
     |rs c q0 q0' q1 q2=>exact⟨_,_,rfl,q0,.rs c (Nat.le_refl _) q0' q1 q2⟩
     |rs0=>exact⟨_,_,rfl,Nat.zero_le _,.rs0⟩
    obtain⟨a,cap,rfl,hcl,hrel⟩:=hcap;have hbd:(Instr.sliceBounds true l.length cap none (some (.int .i64 l.length)) (some (.int .i64 l.length))).run P w=.ok (0,l.length,l.length) w:=by
     simp[Instr.sliceBounds,e_ (P:=P) (w:=w) (k:=.i64) (n:=(l.length:Int)) (y:=cap) ⟨by omega,by omega⟩,e_ (P:=P) (w:=w) (k:=.i64) (n:=(l.length:Int)) (y:=l.length) ⟨by omega,by omega⟩]
    refine⟨.slice a l.length l.length,?_,.rc hrel⟩;simp only[Instr.sliceAt,Instr.slice,Sem.run_bind,run_underlying hd,Result.andThen_ok,hbd,cm hie',Sem.run_pure];cases a <;>simp[Addr.add]
  ·exact absurd he.symm hne
 ·unfold H2 at he;split at he
  ·cases hb:(ci P t i d).isSlice with
   |false=>rw[hb]at he;exact absurd he.symm hne
   |true=>
    rw[hb]at he;simp only[cond_true]at he;obtain⟨e,rfl,hie'⟩:=slice hb;obtain⟨u,rfl,e3⟩:=h2 _ rfl;obtain rfl:=h1' rfl;obtain rfl:=bo hr;obtain rfl:=bo hm;obtain rfl:=bo e3;refine⟨True,_,.inl ⟨he.symm,trivial⟩,fun _=>⟨.slice none 0 0,?_,.v _⟩⟩;have hbd:(Instr.sliceBounds true 0 0 none (some (.int .i64 0)) (some (.int .i64 0))).run P w=.ok (0,0,0) w:=by
     simp[Instr.sliceBounds,e_ (P:=P) (w:=w) (k:=.i64) (n:=0) (y:=0) ⟨by omega,by omega⟩]
    simp only[Instr.sliceAt,Instr.slice,Sem.run_bind,run_underlying hd,Result.andThen_ok,hbd,cm hie',Sem.run_pure];rfl
  ·exact absurd he.symm hne
theorem I4 {h:List Ob}(hp:Hp F own w h){nx:Nat}(hn:NxOk own h nx){t:TypeId}{ti te:TI}(ht:cr P t=some ti)(hte:cr P ti.elem=some te)(hsl:ti.isSlice=true){sl sc:SV}{vl vc:Value}(hrl:Rel F own w sl vl)(hrc:Rel F own w sc vc){r:OR}(he:mkS nx te sl sc=r)(hne:r≠ .bad):
  ru F own w h ((Instr.makeSlice t vl vc).run P w) r:=by
 obtain⟨i,d,z,hi,hd,hz,hq,rfl⟩:=aY ht;obtain⟨ie,de,ze,hie,hde,hze,hqe,hte'⟩:=aY hte;cases d <;>simp[ci]at hsl;rename_i e;simp only[ci]at hie;unfold mkS at he;split at he
 ·rename_i n c;have el:=bo hrl;have ec:=bo hrc;subst el;subst ec;unfold mkT at he;split at he
  ·rename_i k htag;subst he;have htag':oo P e ie=some k:=by rw[hte']at htag;exact htag
   obtain⟨t1,t2,t3,t4⟩:=pw (F:=F) (own:=own) (w:=w) htag';have heb:te.bytes=ie.bytes:=by rw[hte'];rfl
   refine⟨_,_,_,_,rfl,fun⟨hc1,hc2,hc3⟩ =>?_⟩;subst hc1;rw[heb]at hc3;have hnb:n<=n*(ie.bytes:Int):=by
    have:n*1<=n*(ie.bytes:Int):=Int.mul_le_mul_of_nonneg_left (by omega) hc2;omega
   have hnm:n<=(bR:Int):=by unfold fY at hc3;unfold bR;omega
   refine⟨hnm,?_⟩;have hrun:=run_make (P:=P) w t e ie ze hd hie hze .i64 .i64 n n hc2 (Int.le_refl _) (by rw[Int.mul_comm];unfold fY at hc3;omega) (by unfold bR at hnm;omega);have hrz:=(t4 ze hze).1;have hzs:ze.cells.size=aa k:=by rw[hrz.1,aQ]
   refine⟨_,_,_,hrun,Rel.os (F:=F) (id:=nx) (hd:=⟨none,.slice (some ⟨w.heap.size,0,none⟩) n.toNat n.toNat,[],[w.heap.size]⟩) (Own.set_same _ _ _) rfl,lK hp hn (w1:=w) ⟨rfl,rfl,rfl,rfl⟩ _ _ _ rfl fun own' g=>.inr ⟨w.heap.size,0,n.toNat,_,e,by simp,rfl,fR _ _,?_,by simp,by simp;omega,fun q x hx j s hj=>?_⟩⟩
   ·rw[size_madeCells,t1,Nat.zero_add];exact Nat.le_refl _
   ·have hxd:x=di k:=by
     have:=List.mem_of_getElem? hx;exact List.eq_of_mem_replicate this
    subst hxd;have hjl:j<aa k:=by rw[<-aQ k (di k)];exact(List.getElem?_eq_some_iff.1 hj).1
    have hql:q<n.toNat:=by have:=(List.getElem?_eq_some_iff.1 hx).1;simpa using this
    have hlt:q*aa k+j<n.toNat*aa k:=by
     have:(q+1)*aa k<=n.toNat*aa k:=Nat.mul_le_mul_right _ hql;rw[Nat.succ_mul]at this;omega
    refine⟨ze.cells.getD j undef,?_,(hrz.2 j s hj).mono g⟩;have hmod:(q*aa k+j) % ze.cells.size=j:=by rw[hzs,Nat.mul_comm,Nat.mul_add_mod,Nat.mod_eq_of_lt hjl]
    rw[Nat.zero_add];simp only[madeCells,Array.getElem?_map,t1,Array.getElem?_range,hlt,if_true,Option.map_some,hmod];rw[getElem!_pos ze.cells j (by omega)];simp[Array.getD_eq_getD_getElem?,show j<ze.cells.size by omega]
  ·exact absurd he.symm hne
 ·exact absurd he.symm hne
theorem F0 {h:List Ob}(hp:Hp F own w h){t ty:TypeId}{ti:TI}(ht:cr P t=some ti){l:List SV}{vs:Array Value}(hl:RelL F own w l vs){r:OR}(he:lD ti h l=r)(hne:r≠ .bad):
  ∃ (n:Nat),((∃ c,r=.asm c (.i n)/\c)\/r=.val (.i n))/\(Builtin.len_ #[t] ty vs).run P w=.ok (.int .i64 n) w:=by
 obtain⟨i,d,z,hi,hd,hz,hq,rfl⟩:=aY ht;have hsl:(ci P t i d).isSlice=true->∀ (a0:Option Addr) (n cap:Nat),(Builtin.len_ #[t] ty #[.slice a0 n cap]).run P w=.ok (.int .i64 n) w:=by
  intro hs a0 n cap;cases d <;>simp[ci]at hs;simp[Builtin.len_,run_underlying hd,goInt]
 have one:∀ s,l=[s]->∃ v,vs= #[v]/\Rel F own w s v:=by
  rintro s rfl;obtain⟨⟨a⟩⟩:=vs
  ·exact absurd hl.1 (by simp)
  ·rename_i x xs;cases xs with
   |nil=>exact⟨x,rfl,by simpa using hl.2 0 _ rfl⟩
   |cons _ _=>exact absurd hl.1 (by simp)
 unfold lD at he;split at he
 ·rename_i k m;obtain⟨v,rfl,hv⟩:=one _ rfl;cases hb:(ci P t i d).isSlice with
  |false=>rw[hb]at he;exact absurd he.symm hne
  |true=>
   rw[hb]at he;simp only[cond_true]at he;subst he;cases hv with
   |rs c q0 q1 q2 q3=>exact⟨_,.inl ⟨_,rfl,q1⟩,hsl hb _ _ _⟩
   |rs0=>exact⟨_,.inl ⟨_,rfl,Nat.zero_le _⟩,hsl hb _ _ _⟩
 ·obtain⟨v,rfl,hv⟩:=one _ rfl;cases hb:(ci P t i d).isSlice with
  |false=>rw[hb]at he;exact absurd he.symm hne
  |true=>
   rw[hb]at he;simp only[cond_true]at he;subst he;have:=bo hv;subst this;exact⟨0,.inr rfl,hsl hb _ _ _⟩
 ·obtain⟨v,rfl,hv⟩:=one _ rfl;cases hb:(ci P t i d).isSlice with
  |false=>rw[hb]at he;exact absurd he.symm hne
  |true=>
   rw[hb]at he;simp only[cond_true]at he;subst he;cases hv with
   |e0=>exact⟨0,.inr rfl,hsl hb _ _ _⟩
 ·obtain⟨v,rfl,hv⟩:=one _ rfl;cases hb:(ci P t i d).isSlice with
  |false=>rw[hb]at he;exact absurd he.symm hne
  |true=>
   rw[hb]at he;simp only[cond_true]at he;subst he;cases hv with
   |rc hv=>
    refine⟨_,.inl ⟨_,rfl,?_⟩,hsl hb _ _ _⟩;generalize hvv:Value.slice _ _ _=vv at hv;cases hv with
    |rs c q0 q0' q1 q2=>exact q0'
    |rs0=>exact Nat.zero_le _
 ·rename_i id;obtain⟨v,rfl,hv⟩:=one _ rfl;cases hb:(ci P t i d).isSlice with
  |false=>
   rw[hb]at he;simp only[cond_false]at he;obtain⟨hdd,h1,rfl,_⟩:=dQ hv;cases ho:ae h id with
   |mp kk vk m pend=>
     rw[ho]at he;simp only[FL]at he;cases d with
     |map a b0=>
      cases hk:(ci P t i (.map a b0)).mkt.isSome&&noE pend with
      |false=>rw[hk]at he;exact absurd he.symm hne
      |true=>
       rw[hk]at he;simp only[cond_true]at he;subst he;rw[Bool.and_eq_true]at hk;obtain⟨hd',e0,b,es,clk,m1,m2,m3,m4,_⟩:=hp.at ho rfl;rw[h1]at e0;cases e0;rw[fL hk.2]at m4;have hg:(getObj b).run P w=.ok (.map es clk) w:=by simp[getObj,Sem.run,m3]
       have hn:es.size=m.length:=m4.1;refine⟨m.length,.inr rfl,?_⟩;rw[m1];simp[Builtin.len_,run_underlying hd,goInt,hg,hn]
     |_=>exact absurd he.symm hne
   |_=>rw[ho]at he;exact absurd he.symm hne
  |true=>
   rw[hb]at he;simp only[cond_true]at he;obtain⟨hdd,h1,rfl,_⟩:=dQ hv;cases ho:ae h id with
   |row k m=>
    rw[ho]at he;simp only[C5]at he;subst he;obtain⟨hd',e0,e1⟩:=hp.at ho rfl;rw[h1]at e0;cases e0;rcases e1 with⟨a0,m1,rfl,m3⟩ | ⟨b,o,cap,cs,ty,m1,m2,m3,m4,m5,m6,m7⟩
    ·exact⟨_,.inl ⟨_,rfl,Nat.zero_le _⟩,by rw[m1];exact hsl hb _ _ _⟩
    ·exact⟨_,.inl ⟨_,rfl,m6⟩,by rw[m1];exact hsl hb _ _ _⟩
   |grid k m=>
    rw[ho]at he;simp only[C5]at he;subst he;obtain⟨hd',e0,e1⟩:=hp.at ho rfl;rw[h1]at e0;cases e0;rcases e1 with⟨m1,rfl,m3⟩ | ⟨b,o,cap,cs,ty,bs,m1,m2,m3,m4,m5,m6,m7,m8,m9⟩
    ·exact⟨_,.inl ⟨_,rfl,Nat.zero_le _⟩,by rw[m1];exact hsl hb _ _ _⟩
    ·exact⟨_,.inl ⟨_,rfl,m7⟩,by rw[m1];exact hsl hb _ _ _⟩
   |_=>rw[ho]at he;exact absurd he.symm hne
 ·rename_i id q;obtain⟨v,rfl,hv⟩:=one _ rfl;cases hb:(ci P t i d).isSlice with
  |false=>rw[hb]at he;exact absurd he.symm hne
  |true=>
   rw[hb]at he;simp only[cond_true]at he;cases ho:ae h id with
   |grid k m=>
    rw[ho]at he;simp only[FK]at he;subst he;obtain⟨hd',e0,e1⟩:=hp.at ho rfl;cases hv with
    |gr g1 g2 g3=>
     rw[g1]at e0;cases e0;rcases e1 with⟨_,_,m1,_⟩ | ⟨b,o,cap,cs,ty,bs,m1,m2,m3,m4,m5,m6,m7,m8,m9⟩
     ·rw[m1]at g2;simp at g2
     ·obtain⟨b1,k1,k2,k3,k4⟩:=m9.get g2;rcases k3 with⟨a0,n1,n2,_⟩ | ⟨b2,o2,cap2,cs2,ty2,n1,n2,n3,n4,n5,n6,n7⟩
      ·refine⟨_,.inl ⟨_,rfl,?_⟩,?_⟩
       ·rw[n2];exact Nat.zero_le _
       ·rw[n1,n2];exact hsl hb _ _ _
      ·exact⟨_,.inl ⟨_,rfl,n6⟩,by rw[n1];exact hsl hb _ _ _⟩
   |_=>rw[ho]at he;exact absurd he.symm hne
 ·rename_i m;obtain⟨v,rfl,hv⟩:=one _ rfl;cases hb:(ci P t i d).isSlice with
  |false=>rw[hb]at he;exact absurd he.symm hne
  |true=>
   rw[hb]at he;simp only[cond_true]at he;subst he;cases hv with
   |ls c q0 q1 q2=>exact⟨_,.inr rfl,by rw[kl];exact hsl hb _ _ _⟩
 ·exact absurd he.symm hne
end
section
variable {κ υ:Type}[DecidableEq κ]
def gH:List (κ×υ)->κ->Option Nat
 | [],_=>none
 |(a,_)::r,x=>if x=a then some 0 else(gH r x).map (· +1)
theorem lN {x:κ}:∀ {l:List (κ×υ)},gH l x=none->eI l x=none/\(∀ y,pa l x y=l++[(x,y)])/\y5 l x=l.length
 | [],_=>⟨rfl,fun _=>rfl,rfl⟩
 |(a,b)::r,h=>by
  simp only[gH]at h;split at h
  ·cases h
  ·rename_i hne;have h':gH r x=none:=by cases hm:gH r x with
    |none=>rfl
    |some i=>rw[hm]at h;cases h
   obtain⟨h1,h2,h3⟩:=lN h';exact⟨by simp[eI,hne,h1],fun y=>by simp[pa,hne,h2],by simp[y5,hne,h3]⟩
theorem kE {x:κ}:∀ {l:List (κ×υ)} {i:Nat},gH l x=some i->∃ y,l[i]? =some (x,y)/\eI l x=some y/\(∀ z,pa l x z=l.set i (x,z))/\y5 l x=i
 | [],i,h=>by simp[gH]at h
 |(a,b)::r,i,h=>by
  simp only[gH]at h;split at h
  ·rename_i he;simp at h;subst h;subst he;exact⟨b,rfl,by simp[eI],fun z=>by simp[pa],by simp[y5]⟩
  ·rename_i hne;cases hm:gH r x with
   |none=>rw[hm]at h;cases h
   |some j=>
    rw[hm]at h;simp only[Option.map_some,Option.some.injEq]at h;subst h;obtain⟨y,h1,h2,h3,h4⟩:=kE hm;exact⟨y,by simpa using h1,by simp[eI,hne,h2],fun z=>by simp[pa,hne,h3],by simp[y5,hne,h4]⟩
end
section
variable {P:Program}{F:Nat->Prop}{own:Own}{w:World}
theorem wu (a b:ByteArray):(a==b)=true↔a=b:=by
 obtain⟨x⟩:=a;obtain⟨y⟩:=b;show(x==y)=true↔_;simp
theorem mw (k:Tag)(x:k.T):lF (b9 k) (cellsOf k x)=true:=by
 cases k <;>first|rfl|(cases x <;>rfl)
theorem sX:∀ {a b:List Nat},sr a b=true->a=b
 | [],[],_=>rfl
 |x::a,y::b,h=>by simp only[sr,Bool.and_eq_true]at h;rw[Nat.eq_of_beq_eq_true h.1,sX h.2]
 | [],_::_,h=>by simp[sr]at h
 |_::_,[],h=>by simp[sr]at h
theorem xT:∀ {ks:List Kd} {l m:List SV},lF ks l=true->lF ks m=true->(∀ c∈ks.map eo,c≠0)->∃ b,eqL (ks.map eo) l m=some b/\(b=true↔l=m)
 | [],l,m,h1,h2,_=>by
  have e1:=lM h1;have e2:=lM h2;subst e1;subst e2;exact⟨true,rfl,by simp⟩
 |k::ks,l,m,h1,h2,hc=>by
  obtain⟨x,r,rfl,f1,f2⟩:=jn h1;obtain⟨y,s,rfl,g1,g2⟩:=jn h2;obtain⟨b,e1,e2⟩:=xT f2 g2 (fun c hcm=>hc c (by simp[hcm]));have hk:=hc (eo k) (by simp);have:∃ b1,eqV (eo k) x y=some b1/\(b1=true↔x=y):=by
   cases k with
   |s=>
    have hx:=uQ f1;have hy:=uQ g1;rw[<-hx,<-hy];refine⟨toS x==toS y,by simp[eqV,eo],by simp[wu]⟩
   |b=>
    have hx:=uR f1;have hy:=uR g1;rw[<-hx,<-hy];refine⟨toB x==toB y,by simp[eqV,eo],by simp⟩
   |n k=>
    have hx:=uS f1;have hy:=uS g1;rw[<-hx,<-hy];refine⟨toI x==toI y,by simp[eqV,eo],by simp⟩
   |r k=>simp[eo]at hk
   |m a b=>simp[eo]at hk
   |f=>simp[eo]at hk
  obtain⟨b1,e3,e4⟩:=this;refine⟨b1&&b,by simp[eqL,e3,e1,oI],?_⟩;simp only[Bool.and_eq_true,e4,e2,List.cons.injEq]
theorem qE {t:TypeId}{k:Tag}(h:xw P t=some k):∃ i d,P.info? t=some i/\oo P t i=some k/\P.underlying t=some d/\fJ P t=iH k/\
  ((fJ P t=true/\(b9 k).map eo=iq P t d/\iq P t d≠[])\/(fJ P t=false/\(b9 k).map eo=[br (some d)]/\br (some d)≠0)):=by
 unfold xw at h;cases ht:xv P t with
 |none=>rw[ht]at h;cases h
 |some k'=>
  rw[ht]at h;simp only at h;cases hf:y4 P t k' with
  |false=>rw[hf]at h;cases h
  |true=>
   rw[hf]at h;simp only[cond_true,Option.some.injEq]at h;subst h;obtain⟨i,hi,htag⟩:=qD ht;unfold y4 at hf;split at hf
   ·rename_i d hd;refine⟨i,d,hi,htag,hd,(pw (F:=fun _=>False) (own:=bX) (w:=default) htag).2.2.1,?_⟩;cases ha:fJ P t with
    |true=>
     rw[ha]at hf;simp only[cond_true,Bool.and_eq_true]at hf;have e:=sX hf.1;refine .inl ⟨rfl,e,fun hn=>?_⟩;rw[hn]at e;have:=nbl hf.2;rw[List.map_eq_nil_iff]at e;rw[e]at this;simp at this
    |false=>
     rw[ha]at hf;simp only[cond_false,Bool.and_eq_true]at hf;exact .inr ⟨rfl,sX hf.1,by have:=nbl hf.2;omega⟩
   ·cases hf
theorem sY {t:TypeId}{d:TypeDesc}(c:Nat)(h:c∈iq P t d):c≠0:=by
 unfold iq at h;split at h
 ·rename_i fs;cases hb:!P.stoodInHeld t&& !P.eqGuardType P.depth t&&eqFields P 0 fs.toList with
  |false=>rw[hb]at h;cases h
  |true=>
   rw[hb]at h;simp only[cond_true]at h;simp only[Bool.and_eq_true]at hb;have:∀ (l:List Field) (n:Nat),eqFields P n l=true->c∈l.map (fun f=>br (P.underlying f.type))->c≠0:=by
    intro l;induction l with
    |nil=>intro n _ h;simp at h
    |cons f l ih=>
     intro n hf hm;simp only[eqFields,Bool.and_eq_true]at hf;simp only[List.map_cons,List.mem_cons]at hm;rcases hm with rfl|hm
     ·have:=nbl hf.1.2;omega
     ·exact ih (n+1) hf.2 hm
   exact this _ _ hb.2 h
 ·rename_i n e;cases hb:!P.eqGuardType P.depth t&&Nat.blt 0 (br (P.underlying e))&&Nat.beq (g8 P e) 1 with
  |false=>rw[hb]at h;cases h
  |true=>
   rw[hb]at h;simp only[cond_true]at h;simp only[Bool.and_eq_true]at hb;have:=List.eq_of_mem_replicate h;have h2:=nbl hb.1.2;omega
 ·cases h
theorem sZ {d:Nat}{e:TypeId}(hc:br (P.underlying e)≠0):∀ (n m:Nat) (lx ly:List SV) (xs ys:Array Value) (b:Bool),eqL (List.replicate n (br (P.underlying e))) lx ly=some b->m+lx.length<=xs.size->m+ly.length<=ys.size->
  (∀ (j:Nat) (s:SV),lx[j]? =some s->Rel F own w s (xs.getD (m+j) undef))->(∀ (j:Nat) (s:SV),ly[j]? =some s->Rel F own w s (ys.getD (m+j) undef))->
  (Op.eqItems (d+1) e 1 xs ys (List.range' m n)).run P w=.ok b w
 |0,m,lx,ly,xs,ys,b,h,_,_,_,_=>by
  cases lx <;>cases ly <;>simp[eqL]at h;subst h;simp[Op.eqItems]
 |n+1,m,lx,ly,xs,ys,b,h,h1,h2,h3,h4=>by
  cases lx with
  |nil=>simp[eqL,List.replicate_succ]at h
  |cons x lx=>
   cases ly with
   |nil=>simp[eqL,List.replicate_succ]at h
   |cons y ly=>
    simp only[List.replicate_succ,eqL]at h;cases hv:eqV (br (P.underlying e)) x y with
    |none=>rw[hv]at h;simp[oI]at h
    |some b1=>
     cases hl:eqL (List.replicate n (br (P.underlying e))) lx ly with
     |none=>rw[hv,hl]at h;simp[oI]at h
     |some b2=>
      rw[hv,hl]at h;simp only[oI,Option.some.injEq]at h;subst h;simp only[List.length_cons]at h1 h2;have e1:=lm (P:=P) (w:=w) hc (xs:=xs) (n:=m) (by omega);have e2:=lm (P:=P) (w:=w) hc (xs:=ys) (n:=m) (by omega);have e3:=zr (P:=P) (h3 0 x rfl) (h4 0 y rfl) hv d;simp only[Nat.add_zero]at e3;rw[List.range'_succ];simp only[Op.eqItems,Nat.mul_one,Sem.run_bind,e1,e2,Result.andThen_ok,e3];cases b1 with
      |false=>simp
      |true=>
       have ih:=sZ (d:=d) hc n (m+1) lx ly xs ys b2 hl (by omega) (by omega) (fun j s hj=>by have:=h3 (j+1) s (by simpa using hj);rwa[show m+(j+1)=m+1+j by omega]at this) (fun j s hj=>by have:=h4 (j+1) s (by simpa using hj);rwa[show m+(j+1)=m+1+j by omega]at this);simp only[Bool.not_true,Bool.false_eq_true,if_false,Bool.true_and];exact ih
theorem xU {t:TypeId}{d:TypeDesc}(hd:P.underlying t=some d){lx ly:List SV}{xs ys:Array Value}(hx:RelL F own w lx xs)(hy:RelL F own w ly ys){b:Bool}
  (hc:iq P t d≠[]) (h:eqL (iq P t d) lx ly=some b):(Op.equal t (.agg xs) (.agg ys)).run P w=.ok b w/\P.eqGuardType P.depth t=false:=by
 cases d with
 |struct fs=>exact xR hd hx hy hc h
 |array n e=>
  simp only[iq]at hc h;cases hb:!P.eqGuardType P.depth t&&Nat.blt 0 (br (P.underlying e))&&Nat.beq (g8 P e) 1 with
  |false=>rw[hb]at hc;exact absurd rfl hc
  |true=>
   rw[hb]at h;simp only[cond_true]at h;simp only[Bool.and_eq_true,Bool.not_eq_true']at hb;obtain⟨⟨q1,q2⟩,q3⟩:=hb;refine⟨?_,q1⟩;have h1:=Nat.eq_of_beq_eq_true q3;have hi:∃ i,P.info? e=some i/\i.size=1:=by
    unfold g8 at h1;cases hi:P.info? e with
    |none=>rw[hi]at h1;simp at h1
    |some i=>rw[hi]at h1;exact⟨i,rfl,h1⟩
   obtain⟨i,hi,his⟩:=hi;unfold Op.equal Op.maxDepth;rw[run_equalIn_array (w:=w) 9999 xs ys hd hi];have hco:P.cellsOf e=1:=by unfold Program.cellsOf;rw[hi];exact his
   rw[hco,List.range_eq_range'];exact sZ (d:=9998) (by have:=nbl q2;omega) n 0 lx ly xs ys b h (by rw[hx.1];omega) (by rw[hy.1];omega) (fun j s hj=>by simpa using hx.2 j s hj) (fun j s hj=>by simpa using hy.2 j s hj)
 |_=>exact absurd rfl hc
theorem nQ {k:Tag}{x:k.T}(h:iH k=true):svT k x=.agg (cellsOf k x):=by unfold svT;rw[h];rfl
theorem ln {l:List SV}{v:Value}(h:Rel F own w (.agg l) v):∃ vs,v=.agg vs/\RelL F own w l vs:=by
 cases h with|agg h0 h1=>exact⟨_,rfl,h0,h1⟩
theorem px {k:Tag}{x:k.T}(h:iH k=false){s:SV}(hs:cellsOf k x=[s]):svT k x=s:=by unfold svT;rw[h,hs];rfl
theorem zw {d:TypeDesc}{k:Kd}{sx sy:SV}(hc:eo k=br (some d))(h0:eo k≠0)(fx:fit k sx=true)(fy:fit k sy=true){vx vy:Value}(hx:Rel F own w sx vx)(hy:Rel F own w sy vy):
  ∃ b,Instr.sameNow d vx vy=some b/\(b=true↔sx=sy)/\(b=true->vx=vy):=by
 cases k with
 |s=>
  have e1:=uQ fx;have e2:=uQ fy;rw[<-e1]at hx |-;rw[<-e2]at hy |-;have:=bo hx;have:=bo hy;subst vx;subst vy;cases d <;>simp[eo,br]at hc;exact⟨toS sx==toS sy,rfl,by simp[wu],by simp[wu]⟩
 |b=>
  have e1:=uR fx;have e2:=uR fy;rw[<-e1]at hx |-;rw[<-e2]at hy |-;have:=bo hx;have:=bo hy;subst vx;subst vy;cases d <;>simp[eo,br]at hc;exact⟨toB sx==toB sy,rfl,by simp,by simp⟩
 |n k=>
  have e1:=uS fx;have e2:=uS fy;rw[<-e1]at hx |-;rw[<-e2]at hy |-;have:=bo hx;have:=bo hy;subst vx;subst vy;cases d <;>simp[eo,br]at hc;exact⟨toI sx==toI sy,by simp[Instr.sameNow],by simp,by simp⟩
 |r k=>simp[eo]at h0
 |m a b=>simp[eo]at h0
 |f=>simp[eo]at h0
theorem ox {kk vk:Tag}{kt:TypeId}{vx:Value}{x:kk.T}:∀ (es:List MapEntry) (l:List (kk.T×vk.T)) (n:Nat),es.length=l.length->(∀ (i:Nat) (p:kk.T×vk.T),l[i]? =some p->∃ e:MapEntry,es[i]? =some e/\∃ b,(Op.equal kt vx e.key).run P w=.ok b w/\(b=true↔x=p.1))->
  (Instr.findAsking kt vx es n).run P w=.ok ((gH l x).bind fun i=>(es[i]?).map fun e=>(n+i,e.val)) w
 | [],[],n,_,_=>by simp[Instr.findAsking,gH]
 | [],_::_,_,h,_=>by simp at h
 |_::_,[],_,h,_=>by simp at h
 |e::es,(a,c)::l,n,hl,h=>by
  obtain⟨e',e1,b,e2,e3⟩:=h 0 _ rfl;simp at e1;subst e1;have ih:=ox es l (n+1) (by simpa using hl) (fun i p hp=>by
   obtain⟨e',q1,q2⟩:=h (i+1) p (by simpa using hp);exact⟨e',by simpa using q1,q2⟩)
  simp only[Instr.findAsking,Sem.run_bind,e2,Result.andThen_ok];cases b with
  |true=>
   have:=e3.1 rfl;simp only[gH,this,if_true,Sem.run_pure];simp
  |false=>
   have hne:¬x=a:=fun hx=>by have:=e3.2 hx;cases this
   simp only[Bool.false_eq_true,if_false,gH,hne];rw[ih];cases gH l x with
   |none=>rfl
   |some i=>simp[Nat.add_assoc,Nat.add_comm 1 i]
theorem s4 {kk vk:Tag}{d:TypeDesc}{vx:Value}{x:kk.T}:∀ (es:List MapEntry) (l:List (kk.T×vk.T)) (n:Nat),es.length=l.length->(∀ (i:Nat) (p:kk.T×vk.T),l[i]? =some p->∃ e:MapEntry,es[i]? =some e/\∃ b,Instr.sameNow d vx e.key=some b/\(b=true↔x=p.1))->
  Instr.findNow d vx es n=some ((gH l x).bind fun i=>(es[i]?).map fun e=>(n+i,e.val))
 | [],[],n,_,_=>by simp[Instr.findNow,gH]
 | [],_::_,_,h,_=>by simp at h
 |_::_,[],_,h,_=>by simp at h
 |e::es,(a,c)::l,n,hl,h=>by
  obtain⟨e',e1,b,e2,e3⟩:=h 0 _ rfl;simp at e1;subst e1;have ih:=s4 es l (n+1) (by simpa using hl) (fun i p hp=>by
   obtain⟨e',q1,q2⟩:=h (i+1) p (by simpa using hp);exact⟨e',by simpa using q1,q2⟩)
  simp only[Instr.findNow,e2];cases b with
  |true=>
   have:=e3.1 rfl;simp[gH,this]
  |false=>
   have hne:¬x=a:=fun hx=>by have:=e3.2 hx;cases this
   simp only[gH,hne,if_false];rw[ih];cases gH l x with
   |none=>rfl
   |some i=>simp[Nat.add_assoc,Nat.add_comm 1 i]
theorem qF {k:Tag}{c:Nat}(h:(b9 k).map eo=[c])(x:k.T):∃ κ s,b9 k=[κ]/\eo κ=c/\cellsOf k x=[s]/\fit κ s=true:=by
 have hf:=mw k x;cases hk:b9 k with
 |nil=>rw[hk]at h;cases h
 |cons κ r=>
  rw[hk]at h hf;simp only[List.map_cons,List.cons.injEq,List.map_eq_nil_iff]at h;obtain⟨h1,rfl⟩:=h;obtain⟨s,r,hs,f1,f2⟩:=jn hf;have:=lM f2;subst this;exact⟨κ,s,rfl,h1,hs,f1⟩
theorem my {kk vk:Tag}{kt:TypeId}(hk:xw P kt=some kk){vx:Value}{x:kk.T}(hx:Rel F own w (svT kk x) vx){l:List (kk.T×vk.T)}{es:Array MapEntry}(hl:es.size=l.length)(hes:∀ (i:Nat) (p:kk.T×vk.T),l[i]? =some p->∃ e,es[i]? =some e/\Rel F own w (svT kk p.1) e.key):
  (Instr.findKey kt vx es.toList).run P w=.ok ((gH l x).bind fun i=>(es[i]?).map fun e=>(i,e.val)) w:=by
 obtain⟨i,d,hi,htag,hd,ha,hcase⟩:=qE hk;unfold Instr.findKey;simp only[Sem.run_bind,run_underlying hd,Result.andThen_ok];rcases hcase with⟨h1,h2,h3⟩ | ⟨h1,h2,h3⟩
 ·rw[h1]at ha;rw[nQ ha.symm]at hx;obtain⟨xs,rfl,hxs⟩:=ln hx;have heq:∀ (i:Nat) (p:kk.T×vk.T),l[i]? =some p->∃ e:MapEntry,es.toList[i]? =some e/\∃ b,(Op.equal kt (.agg xs) e.key).run P w=.ok b w/\(b=true↔x=p.1):=fun i p hp=>by
   obtain⟨e,e1,e2⟩:=hes i p hp;rw[nQ ha.symm]at e2;obtain⟨ys,hy1,hy2⟩:=ln e2;refine⟨e,by simpa using e1,?_⟩;obtain⟨b,q1,q2⟩:=xT (mw kk x) (mw kk p.1) (fun c hc=>by rw[h2]at hc;exact sY c hc);rw[h2]at q1;rw[hy1];exact⟨b,(xU hd hxs hy2 h3 q1).1,by rw[q2];exact⟨fun h=>rl h,fun h=>by rw[h]⟩⟩
  have hfa:=ox (P:=P) (w:=w) es.toList l 0 (by simpa using hl) heq;simp only[Nat.zero_add,Array.getElem?_toList]at hfa;have hnow:Instr.findNow d (.agg xs) es.toList 0=none\/es.toList=[]:=by
   cases hel:es.toList with
   |nil=>exact .inr rfl
   |cons e r=>
    left;simp only[Instr.findNow];have:Instr.sameNow d (.agg xs) e.key=none:=by cases d <;>rfl
    rw[this]
  rcases hnow with hnow|hnil
  ·rw[hnow];exact hfa
  ·rw[hnil]at hfa |-;simp only[Instr.findNow,Sem.run_pure];simp only[Instr.findAsking,Sem.run_pure]at hfa;exact hfa
 ·rw[h1]at ha;obtain⟨κ,s,k1,k2,k3,k4⟩:=qF h2 x;rw[px ha.symm k3]at hx;have heq:∀ (i:Nat) (p:kk.T×vk.T),l[i]? =some p->∃ e:MapEntry,es.toList[i]? =some e/\∃ b,Instr.sameNow d vx e.key=some b/\(b=true↔x=p.1):=fun i p hp=>by
   obtain⟨e,e1,e2⟩:=hes i p hp;obtain⟨κ',s',m1,m2,m3,m4⟩:=qF h2 p.1;rw[k1]at m1;cases m1;rw[px ha.symm m3]at e2;obtain⟨b,q1,q2,_⟩:=zw k2 (by rw[k2];exact h3) k4 m4 hx e2;exact⟨e,by simpa using e1,b,q1,by rw[q2];exact⟨fun h=>rl (by rw[k3,m3,h]),fun h=>by rw[h,m3]at k3;simpa using k3.symm⟩⟩
  have hfn:=s4 (d:=d) es.toList l 0 (by simpa using hl) heq;simp only[Nat.zero_add,Array.getElem?_toList]at hfn;rw[hfn];rfl
theorem nt {em:Bool}{xs:Array Value}:∀ (fs:List Field) (n:Nat),eqFields P n fs=true->n+fs.length<=xs.size->
  (forIn fs PUnit.unit (fun f (_:PUnit) =>do
   if f.name≠ "_" then Instr.checkKey em 9999 f.type (<-part f.type xs f.offset)
   pure (ForInStep.yield PUnit.unit)):Sem PUnit).run P w=.ok PUnit.unit w
 | [],n,_,_=>by simp
 |f::fs,n,hf,hle=>by
  simp only[eqFields,Bool.and_eq_true]at hf;obtain⟨⟨⟨q1,q2⟩,q3⟩,q4⟩:=hf;have hn:f.name≠ "_":=by simpa using q1
  have ho:f.offset=n:=Nat.eq_of_beq_eq_true q2;have hc:br (P.underlying f.type)≠0:=by have:=nbl q3;omega
  simp only[List.length_cons]at hle;have e1:=lm (P:=P) (w:=w) hc (xs:=xs) (n:=n) (by omega);have e2:(Instr.checkKey em 9999 f.type (xs.getD n undef)).run P w=.ok () w:=by
   unfold Instr.checkKey;cases hu:P.underlying f.type with
   |none=>rw[hu]at hc;simp[br]at hc
   |some d=>
    rw[hu]at hc;simp only[Sem.run_bind,run_underlying hu,Result.andThen_ok];cases d <;>simp[br]at hc <;>simp
  have ih:=nt (em:=em) (xs:=xs) fs (n+1) q4 (by omega);rw[List.forIn_cons];simp only[if_pos hn,ho,Sem.run_bind,e1,Result.andThen_ok,e2,Sem.run_pure];exact ih
theorem oy {em:Bool}{e:TypeId}(hc:br (P.underlying e)≠0)(hs:(sizeOf e).run P w=.ok 1 w){xs:Array Value}:∀ (n m:Nat),m+n<=xs.size->
  (forIn (List.range' m n) PUnit.unit (fun i (_:PUnit) =>do
   Instr.checkKey em 9999 e (<-part e xs (i*(<-sizeOf e)))
   pure (ForInStep.yield PUnit.unit)):Sem PUnit).run P w=.ok PUnit.unit w
 |0,m,_=>by simp
 |n+1,m,hle=>by
  have e1:=lm (P:=P) (w:=w) hc (xs:=xs) (n:=m) (by omega);have e2:(Instr.checkKey em 9999 e (xs.getD m undef)).run P w=.ok () w:=by
   unfold Instr.checkKey;cases hu:P.underlying e with
   |none=>rw[hu]at hc;simp[br]at hc
   |some d=>
    rw[hu]at hc;simp only[Sem.run_bind,run_underlying hu,Result.andThen_ok];cases d <;>simp[br]at hc <;>simp
  have ih:=oy (em:=em) hc hs (xs:=xs) n (m+1) (by omega);rw[List.range'_succ,List.forIn_cons];simp only[Sem.run_bind,hs,Result.andThen_ok,Nat.mul_one,e1,e2,Sem.run_pure];exact ih
theorem lp {kk:Tag}{kt:TypeId}(hk:xw P kt=some kk){vx:Value}{x:kk.T}(hx:Rel F own w (svT kk x) vx)(em:Bool):(Instr.checkKey em 10000 kt vx).run P w=.ok () w:=by
 obtain⟨i,d,hi,htag,hd,ha,hcase⟩:=qE hk;rcases hcase with⟨h1,h2,h3⟩ | ⟨h1,h2,h3⟩
 ·rw[h1]at ha;rw[nQ ha.symm]at hx;obtain⟨xs,rfl,hxs⟩:=ln hx;have hlen:(iq P kt d).length=xs.size:=by
   rw[hxs.1,<-h2,List.length_map,aQ];have:(b9 kk).length=(cellsOf kk x).length:=by cases kk <;>rfl
   rw[this,aQ]
  unfold Instr.checkKey;simp only[Sem.run_bind,run_underlying hd,Result.andThen_ok];cases d with
  |struct fs=>
   simp only[iq]at h3 hlen;cases hb:!P.stoodInHeld kt&& !P.eqGuardType P.depth kt&&eqFields P 0 fs.toList with
   |false=>rw[hb]at h3;exact absurd rfl h3
   |true=>
    rw[hb]at hlen;simp only[Bool.and_eq_true]at hb;have:=nt (P:=P) (w:=w) (em:=em) (xs:=xs) fs.toList 0 hb.2 (by simp at hlen;simp;omega);rw[Array.forIn_toList]at this;simpa[Sem.run_bind]using this
  |array n e=>
   simp only[iq]at h3 hlen;cases hb:!P.eqGuardType P.depth kt&&Nat.blt 0 (br (P.underlying e))&&Nat.beq (g8 P e) 1 with
   |false=>rw[hb]at h3;exact absurd rfl h3
   |true=>
    rw[hb]at hlen;simp only[Bool.and_eq_true]at hb;have hs1:=Nat.eq_of_beq_eq_true hb.2;have hs:(sizeOf e).run P w=.ok 1 w:=by
     unfold g8 at hs1;cases hi:P.info? e with
     |none=>rw[hi]at hs1;simp at hs1
     |some i=>rw[hi]at hs1;rw[cm hi];exact congrArg (fun n=>Result.ok n w) hs1
    have:=oy (P:=P) (w:=w) (em:=em) (xs:=xs) (e:=e) (by have:=nbl hb.1.2;omega) hs n 0 (by simp at hlen;omega);simp only[Std.Legacy.Range.forIn_eq_forIn_range',Std.Legacy.Range.size,Nat.sub_zero,Nat.add_one_sub_one,Nat.div_one];simpa[Sem.run_bind]using this
  |_=>exact absurd rfl h3
 ·unfold Instr.checkKey;simp only[Sem.run_bind,run_underlying hd,Result.andThen_ok];cases d <;>simp[br]at h3 <;>simp
end
def py (w:World)(b:Nat)(o:Obj):World:= { w with heap:=w.heap.setIfInBounds b o}
theorem zx {w:World}{b k:Nat}{o:Obj}(h:k≠b):(py w b o).heap[k]? =w.heap[k]?:=by
 simp only[py,Array.getElem?_setIfInBounds];rw[if_neg fun e=>h e.symm]
section
variable {P:Program}{F:Nat->Prop}{own:Own}{w:World}
theorem zy {z:Value}(h:sq z=true):z=.agg z.cells:=by
 cases z <;>first|rfl|simp[sq]at h
theorem xV {t:TypeId}{i:TypeInfo}{k:Tag}(h:oo P t i=some k){z:Value}(hz:i.zero=some z):Rel F own w (svT k (di k)) z:=by
 obtain⟨t1,t2,t3,t4⟩:=pw (F:=F) (own:=own) (w:=w) h;obtain⟨q1,q2⟩:=t4 z hz;cases ha:iH k with
 |true=>
  rw[nQ ha,zy (q2.trans ha)];exact .agg q1.1 q1.2
 |false=>
  have hc:z.cells= #[z]:=by cases z <;>first|rfl|(rw[ha]at q2;simp[sq]at q2)
  rw[hc]at q1;have hl:(cellsOf k (di k)).length=1:=by rw[<-q1.1];rfl
  obtain⟨s,hs⟩:∃ s,cellsOf k (di k)=[s]:=by
   cases hcc:cellsOf k (di k)with
   |nil=>rw[hcc]at hl;cases hl
   |cons s r=>rw[hcc]at hl;cases r with
    |nil=>exact⟨s,rfl⟩
    |cons _ _=>simp at hl
  rw[px ha hs];have:=q1.2 0 s (by rw[hs];rfl);simpa using this
theorem Dz {s:SV}{l:List SV}(h:qw s=some l):l=[s]:=by
 unfold qw at h;split at h
 ·cases h
 ·cases h
 ·rename_i h1 h2;cases s <;>first|(simp[jf]at h;exact h.symm) |(simp[jf]at h;done) |(exact(h1 _ rfl).elim) |skip
  rename_i x;cases x <;>first|(simp[jf]at h;exact h.symm) |(simp[jf]at h;done) |(exact(h2 _ rfl).elim)
theorem ko {k:Tag}{s:SV}{v:Value}(hr:Rel F own w s v){x:k.T}(h:unT k s=some x):Rel F own w (svT k x) v:=by
 unfold unT at h;cases ha:iH k with
 |true=>
  rw[ha]at h;simp only[cond_true]at h;rw[nQ ha];cases hr with
  |agg h0 h1=>
   simp only[pb,rf]at h;have:=sR h ⟨h0,h1⟩;exact .agg this.1 this.2
  |v y=>
   cases v with
   |agg cs=>
    simp only[pb,rf]at h;have:=sR h (vs:=cs) (nN (F:=F) (own:=own) (w:=w) (.agg cs));exact .agg this.1 this.2
   |_=>simp[pb,rf]at h
  |_=>simp[pb,rf]at h
 |false=>
  rw[ha]at h;simp only[cond_false]at h;cases hl:qw s with
  |none=>rw[hl]at h;cases h
  |some l=>
   rw[hl]at h;have:=Dz hl;subst this;simp only[rf]at h;have hc:=gG h;have hlen:=zq h;have hk:(b9 k).length=1:=by
    have:(b9 k).length=aa k:=by cases k <;>rfl
    rw[this,<-hlen];rfl
   cases hkk:b9 k with
   |nil=>rw[hkk]at hk;cases hk
   |cons κ r=>
    rw[hkk]at hc;simp only[oc]at hc;cases r with
    |nil=>
     rw[px ha hc];exact iN hr
    |cons _ _=>rw[hkk]at hk;simp at hk
theorem im {a:Tag}{o:Option Tag}(h:fG a o=true):o=some a:=by
 cases o with
 |none=>cases h
 |some b=>rw[pn (k:=a) (k':=b) h]
theorem oQ {t:TypeId}{ti:TI}(ht:cr P t=some ti){kk vk:Tag}(hk:ti.mkt=some kk)(hv:ti.mvt=some vk):∃ kt e,P.underlying t=some (.map kt e)/\xw P kt=some kk/\xv P e=some vk:=by
 obtain⟨i,d,z,hi,hd,hz,hq,rfl⟩:=aY ht;cases d <;>simp[ci]at hk hv;exact⟨_,_,hd,hk,hv⟩
theorem B9 {kk vk:Tag}(l:List (kk.T×vk.T))(p:Option (Nat×Option kk.T))(x:kk.T):(eI (ct kk vk l p) x).getD (di vk)=(eI l x).getD (di vk):=by
 match p with
 |none=>rfl
 |some (_,none) =>rfl
 |some (_,some y) =>
  simp only[ct];split
  ·rfl
  ·rename_i hn;have:∀ (l:List (kk.T×vk.T)),eI (l++[(y,di vk)]) x=match eI l x with|some v=>some v|none=>if x=y then some (di vk)else none:=by
    intro l;induction l with
    |nil=>simp[eI]
    |cons a l ih=>obtain⟨a,b⟩:=a;simp only[List.cons_append,eI];split <;>simp[ih]
   rw[this];cases eI l x with
   |some v=>rfl
   |none=>simp only;split <;>rfl
theorem pz {t:TypeId}{kt e:TypeId}{kk vk:Tag}(hd:P.underlying t=some (.map kt e))(hk:xw P kt=some kk)(hv:xv P e=some vk){m vx:Value}{x:kk.T}(hx:Rel F own w (svT kk x) vx){L:List (kk.T×vk.T)}{es:Array MapEntry}
  (hm:(m=.map none/\es= #[])\/∃ b clock,m=.map (some b)/\w.heap[b]? =some (.map es clock)) (hl:es.size=L.length) (hes:∀ (i:Nat) (p:kk.T×vk.T),L[i]? =some p->∃ e,es[i]? =some e/\Rel F own w (svT kk p.1) e.key/\Rel F own w (svT vk p.2) e.val) (ok:Bool):
  ∃ v,(Instr.lookup t m vx ok).run P w=.ok (if ok then .tuple #[v,.bool (eI L x).isSome]else v) w/\Rel F own w (svT vk ((eI L x).getD (di vk))) v:=by
 obtain⟨i,hi,htag⟩:=qD hv;have hz:∃ z,i.zero=some z:=by
  have:=qC htag;simp only[qu,Bool.and_eq_true]at this;cases hz:i.zero with
  |none=>rw[hz]at this;simp at this
  |some z=>exact⟨z,rfl⟩
 obtain⟨z,hz⟩:=hz;have hck:=lp hk hx es.isEmpty;have hfk:=my hk hx hl (fun i p hp=>by obtain⟨e,e1,e2,_⟩:=hes i p hp;exact⟨e,e1,e2⟩);have hzr:=xV (F:=F) (own:=own) (w:=w) htag hz;have hzv:(zeroValue e).run P w=.ok z w:=by simp[zeroValue,typeInfo,hi,hz]
 have hget:∃ v,((∃ j,((gH L x).bind fun i=>(es[i]?).map fun e=>(i,e.val))=some (j,v)/\(eI L x).isSome=true)\/(((gH L x).bind fun i=>(es[i]?).map fun e=>(i,e.val))=none/\v=z/\(eI L x).isSome=false))/\Rel F own w (svT vk ((eI L x).getD (di vk))) v:=by
  cases hmi:gH L x with
  |none=>
   have:=(lN hmi).1;exact⟨z,.inr ⟨rfl,rfl,by rw[this];rfl⟩,by rw[this];exact hzr⟩
  |some i=>
   obtain⟨y,h1,h2,_,_⟩:=kE hmi;obtain⟨e,e1,e2,e3⟩:=hes i _ h1;exact⟨e.val,.inl ⟨i,by simp[e1],by rw[h2];rfl⟩,by rw[h2];exact e3⟩
 obtain⟨v,h1,h2⟩:=hget;refine⟨v,?_,h2⟩;rcases hm with⟨rfl,rfl⟩ | ⟨b,clock,rfl,hb⟩
 ·rcases h1 with⟨j,h1,h3⟩ | ⟨h1,rfl,h3⟩
  ·rw[h1]at hfk;simp only[Instr.lookup,Sem.run_bind,run_underlying hd,Result.andThen_ok,Sem.run_pure,hck,hfk,h3]
  ·rw[h1]at hfk;simp only[Instr.lookup,Sem.run_bind,run_underlying hd,Result.andThen_ok,Sem.run_pure,hck,hfk,h3,hzv]
 ·have hg:(getObj b).run P w=.ok (.map es clock) w:=by simp[getObj,Sem.run,hb]
  rcases h1 with⟨j,h1,h3⟩ | ⟨h1,rfl,h3⟩
  ·rw[h1]at hfk;simp only[Instr.lookup,Sem.run_bind,run_underlying hd,Result.andThen_ok,hg,Sem.run_pure,hck,hfk,h3]
  ·rw[h1]at hfk;simp only[Instr.lookup,Sem.run_bind,run_underlying hd,Result.andThen_ok,hg,Sem.run_pure,hck,hfk,h3,hzv]
theorem s5 {kk vk:Tag}{l:List (kk.T×vk.T)}{ok:Bool}{o:Option kk.T}{r:OR}(he:sH kk vk l ok o=r)(hne:r≠ .bad):∃ x,o=some x/\r=.val (bif ok then .tup [svT vk (dG kk vk l x),.b (mZ kk vk l x)]else svT vk (dG kk vk l x)):=by
 unfold sH at he;split at he
 ·rename_i x;refine⟨x,rfl,?_⟩;cases ok <;>exact he.symm
 ·exact absurd he.symm hne
theorem pA {vk:Tag}{y:vk.T}{b:Bool}{v:Value}(h:Rel F own w (svT vk y) v)(ok:Bool):Rel F own w (bif ok then .tup [svT vk y,.b b]else svT vk y) (if ok then .tuple #[v,.bool b]else v):=by
 cases ok with
 |false=>exact h
 |true=>
  refine .tup rfl fun j s hj=>?_;cases j with
  |zero=>simp at hj;subst hj;simpa using h
  |succ j=>
   cases j with
   |zero=>simp at hj;subst hj;exact .v _
   |succ j=>simp at hj
theorem DA {h:List Ob}(hp:Hp F own w h){t:TypeId}{ti:TI}(ht:cr P t=some ti){s sk:SV}{v vx:Value}(hr:Rel F own w s v)(hrk:Rel F own w sk vx){ok:Bool}{r:OR}(he:lg ti h ok sk s=r)(hne:r≠ .bad):
  ∃ s',r=.val s'/\∃ u,(Instr.lookup t v vx ok).run P w=.ok u w/\Rel F own w s' u:=by
 unfold lg at he;split at he
 ·rename_i id;obtain⟨hdd,h1,rfl,h2⟩:=dQ hr;cases ho:ae h id with
  |mp kk vk l pend=>
   rw[ho]at he;simp only[xC]at he;cases hc:fG kk ti.mkt&&fG vk ti.mvt&&(!ok||noE pend)with
   |false=>rw[hc]at he;exact absurd he.symm hne
   |true=>
    rw[hc]at he;simp only[cond_true]at he;simp only[Bool.and_eq_true]at hc;obtain⟨x,hx,rfl⟩:=s5 he hne;obtain⟨kt,e,q1,q2,q3⟩:=oQ ht (im hc.1.1) (im hc.1.2);obtain⟨hd',e0,b,es,clk,m1,m2,m3,m4,_⟩:=hp.at ho rfl;rw[h1]at e0;cases e0;obtain⟨u,k1,k2⟩:=pz (P:=P) q1 q2 q3 (ko hrk hx) (m:=hdd.v) (.inr ⟨b,_,m1,m3⟩) m4.1 (fun i p hp=>by obtain⟨e,e1,e2,e3⟩:=m4.2 i p hp;exact⟨e,e1,e3⟩) ok;rw[B9]at k2;refine⟨_,rfl,_,k1,?_⟩;have hsome:ok=true->(eI (ct kk vk l pend) x).isSome=mZ kk vk l x:=fun hok=>by
     have:=hc.2;rw[hok]at this;rw[fL (by simpa using this)];rfl
    have:=pA (b:=mZ kk vk l x) k2 ok;cases ok with
    |false=>exact this
    |true=>rw[hsome rfl];exact this
  |_=>rw[ho]at he;exact absurd he.symm hne
 ·rename_i kk vk l;cases hc:fG kk ti.mkt&&fG vk ti.mvt with
  |false=>rw[hc]at he;exact absurd he.symm hne
  |true=>
   rw[hc]at he;simp only[cond_true]at he;simp only[Bool.and_eq_true]at hc;obtain⟨x,hx,rfl⟩:=s5 he hne;obtain⟨kt,e,q1,q2,q3⟩:=oQ ht (im hc.1) (im hc.2);cases hr with
   |rm ck cv es clock h0 h1 h2 h3 h4 h5=>
    rename_i b;obtain⟨u,k1,k2⟩:=pz (P:=P) q1 q2 q3 (ko hrk hx) (m:=.map (some b)) (.inr ⟨b,_,rfl,h1⟩) h2 (fun i p hp=>by obtain⟨n,e1⟩:=h3 i p hp;exact⟨_,e1,h4 i p hp,h5 i p hp⟩) ok;exact⟨_,rfl,_,k1,pA k2 ok⟩
   |rm0=>
    obtain⟨u,k1,k2⟩:=pz (P:=P) q1 q2 q3 (ko hrk hx) (m:=.map none) (.inl ⟨rfl,rfl⟩) rfl (fun i p hp=>by simp at hp) ok (L:=[]);exact⟨_,rfl,_,k1,pA k2 ok⟩
 ·have:=bo hr;subst this;unfold AK at he;split at he
  ·rename_i kk vk hk hv;obtain⟨x,hx,rfl⟩:=s5 he hne;obtain⟨kt,e,q1,q2,q3⟩:=oQ ht hk hv;obtain⟨u,k1,k2⟩:=pz (P:=P) q1 q2 q3 (ko hrk hx) (m:=.map none) (.inl ⟨rfl,rfl⟩) rfl (fun i p hp=>by simp at hp) ok (L:=[]);exact⟨_,rfl,_,k1,pA k2 ok⟩
  ·exact absurd he.symm hne
 ·exact absurd he.symm hne
theorem oz {κ:Kd}{s:SV}{v u:Value}(hk:eo κ≠0)(hf:fit κ s=true)(hv:Rel F own w s v)(hu:Rel F own w s u)(n:Nat):u=v/\Instr.sameBits n v u=true:=by
 cases κ with
 |s=>have e:=uQ hf;rw[<-e]at hv hu;rw[bo hv,bo hu];exact⟨rfl,by cases n <;>simp[Instr.sameBits,wu]⟩
 |b=>have e:=uR hf;rw[<-e]at hv hu;rw[bo hv,bo hu];exact⟨rfl,by cases n <;>simp[Instr.sameBits]⟩
 |n k=>have e:=uS hf;rw[<-e]at hv hu;rw[bo hv,bo hu];exact⟨rfl,by cases n <;>simp[Instr.sameBits]⟩
 |r k=>simp[eo]at hk
 |m a b=>simp[eo]at hk
 |f=>simp[eo]at hk
theorem xW:∀ {ks:List Kd} {l:List SV} {j:Nat} {s:SV},lF ks l=true->l[j]? =some s->∃ κ,κ∈ks/\fit κ s=true
 | [],l,j,s,h,hj=>by have:=lM h;subst this;simp at hj
 |k::ks,l,j,s,h,hj=>by
  obtain⟨x,r,rfl,f1,f2⟩:=jn h;cases j with
  |zero=>simp at hj;subst hj;exact⟨k,by simp,f1⟩
  |succ j=>simp at hj;obtain⟨κ,h1,h2⟩:=xW f2 hj;exact⟨κ,by simp[h1],h2⟩
theorem AU {kt:TypeId}{kk:Tag}(hk:xw P kt=some kk){x:kk.T}{v u:Value}(hv:Rel F own w (svT kk x) v)(hu:Rel F own w (svT kk x) u):(Instr.keyThatStays v u).run P w=.ok u w:=by
 obtain⟨i,d,hi,htag,hd,ha,hcase⟩:=qE hk;have:Instr.sameBits 10000 v u=true:=by
  rcases hcase with⟨h1,h2,h3⟩ | ⟨h1,h2,h3⟩
  ·rw[h1]at ha;rw[nQ ha.symm]at hv hu;obtain⟨xs,rfl,hxs⟩:=ln hv;obtain⟨ys,rfl,hys⟩:=ln hu;have hsz:xs.size=ys.size:=hxs.1.trans hys.1.symm;have key:∀ (j:Nat),j<xs.size->ys.getD j undef=xs.getD j undef/\Instr.sameBits 9999 (xs.getD j undef) (ys.getD j undef)=true:=fun j hj=>by
    have hjc:j< (cellsOf kk x).length:=by rw[<-hxs.1];exact hj
    obtain⟨κ,q1,q2⟩:=xW (mw kk x) (List.getElem?_eq_getElem hjc);have hc:eo κ≠0:=by
     have:eo κ∈(b9 kk).map eo:=List.mem_map.2 ⟨κ,q1,rfl⟩;rw[h2]at this;exact sY _ this
    exact oz hc q2 (hxs.2 j _ (List.getElem?_eq_getElem hjc)) (hys.2 j _ (List.getElem?_eq_getElem hjc)) 9999
   simp only[Instr.sameBits,Bool.and_eq_true,beq_iff_eq,hsz,true_and,List.all_eq_true];rintro⟨a,b⟩ hm;obtain⟨j,hj⟩:=List.getElem?_of_mem hm;rw[List.getElem?_zip_eq_some]at hj;obtain⟨j1,j2⟩:=hj;have hjl:j<xs.size:=by have:=(List.getElem?_eq_some_iff.1 j1).1;simpa using this
   have:=(key j hjl).2;simp only[Array.getElem?_toList]at j1 j2;simpa[Array.getD_eq_getD_getElem?,j1,j2]using this
  ·rw[h1]at ha;obtain⟨κ,s,k1,k2,k3,k4⟩:=qF h2 x;rw[px ha.symm k3]at hv hu;exact(oz (by rw[k2];exact h3) k4 hv hu 10000).2
 simp[Instr.keyThatStays,this]
theorem MpAt.upd {own':Own}{w':World}(g:Goes F own w own' w'){kk vk:Tag}{l:List (kk.T×vk.T)}{es:Array MapEntry}(h:MpAt F own w kk vk l es){i:Nat}{x:kk.T}{y:vk.T}{vx vy:Value}(hx:Rel F own w (svT kk x) vx)(hy:Rel F own w (svT vk y) vy)(hi:i<l.length):
  MpAt F own' w' kk vk (l.set i (x,y)) (es.modify i fun e=>{ e with key:=vx,val:=vy}):=by
 refine⟨by simp[h.1],fun j p hp=>?_⟩;rw[List.getElem?_set]at hp;by_cases hij:i=j
 ·subst hij;rw[if_pos rfl,if_pos hi]at hp;simp only[Option.some.injEq]at hp;subst hp;obtain⟨e,e1,e2,_⟩:=h.2 i _ (List.getElem?_eq_getElem hi);exact⟨{ e with key:=vx,val:=vy},by simp[Array.getElem?_modify,e1],e2,hx.mono g,hy.mono g⟩
 ·rw[if_neg hij]at hp;obtain⟨e,e1,e2,e3,e4⟩:=h.2 j p hp;exact⟨e,by simp[Array.getElem?_modify,hij,e1],e2,e3.mono g,e4.mono g⟩
theorem MpAt.push {own':Own}{w':World}(g:Goes F own w own' w'){kk vk:Tag}{l:List (kk.T×vk.T)}{es:Array MapEntry}(h:MpAt F own w kk vk l es){x:kk.T}{y:vk.T}{vx vy:Value}(hx:Rel F own w (svT kk x) vx)(hy:Rel F own w (svT vk y) vy)(c:Nat):
  MpAt F own' w' kk vk (l++[(x,y)]) (es.push ⟨vx,vy,c⟩):=by
 refine⟨by simp[h.1],fun j p hp=>?_⟩;rw[List.getElem?_append]at hp;split at hp
 ·rename_i hlt;obtain⟨e,e1,e2,e3,e4⟩:=h.2 j p hp;exact⟨e,by rw[Array.getElem?_push_lt (by rw[h.1];exact hlt)];simpa[h.1,hlt]using e1,e2,e3.mono g,e4.mono g⟩
 ·rename_i hlt;have hj:j=l.length:=by
   have:=(List.getElem?_eq_some_iff.1 hp).1;simp at this;omega
  subst hj;simp at hp;subst hp;exact⟨⟨vx,vy,c⟩,by rw[<-h.1];simp,trivial,hx.mono g,hy.mono g⟩
theorem MpAt.erase {own':Own}{w':World}(g:Goes F own w own' w'){kk vk:Tag}{l:List (kk.T×vk.T)}{es:Array MapEntry}(h:MpAt F own w kk vk l es)(i:Nat):
  MpAt F own' w' kk vk (l.eraseIdx i) (es.eraseIdxIfInBounds i):=by
 have hz:es.toList.length=l.length:=by simpa using h.1
 refine⟨?_,fun j p hp=>?_⟩
 ·rw[<-Array.length_toList,Array.toList_eraseIdxIfInBounds,List.length_eraseIdx,List.length_eraseIdx,hz]
 ·rw[<-Array.getElem?_toList,Array.toList_eraseIdxIfInBounds,List.getElem?_eraseIdx];rw[List.getElem?_eraseIdx]at hp;split at hp
  ·rename_i hlt;obtain⟨e,e1,e2,e3,e4⟩:=h.2 _ p hp;exact⟨e,by rw[if_pos hlt,Array.getElem?_toList];exact e1,e2,e3.mono g,e4.mono g⟩
  ·rename_i hlt;obtain⟨e,e1,e2,e3,e4⟩:=h.2 _ p hp;exact⟨e,by rw[if_neg hlt,Array.getElem?_toList];exact e1,e2,e3.mono g,e4.mono g⟩
theorem wv (es:Array MapEntry)(i:Nat)(f:MapEntry->MapEntry)(hf:∀ e,(f e).born=e.born):d8 (es.modify i f)=d8 es:=by
 unfold d8;refine List.ext_getElem? fun j=>?_;simp only[List.getElem?_map,Array.getElem?_toList,Array.getElem?_modify];split <;>cases es[j]? <;>simp[hf]
theorem Stamped.modify {es:Array MapEntry}{c i:Nat}{f:MapEntry->MapEntry}(h:Stamped es c)(hf:∀ e,(f e).born=e.born):Stamped (es.modify i f) c:=by
 unfold Stamped;rw[wv es i f hf];exact h
theorem Stamped.push {es:Array MapEntry}{c:Nat}(h:Stamped es c)(vx vy:Value):Stamped (es.push ⟨vx,vy,c⟩) (c+1):=by
 have e:d8 (es.push ⟨vx,vy,c⟩)=d8 es++[c]:=by simp[d8]
 unfold Stamped;rw[e];refine⟨List.nodup_append.2 ⟨h.1,by simp,fun a ha b hb=>?_⟩,fun n hn=>?_⟩
 ·simp at hb;subst hb;have:=h.2 a ha;omega
 ·rcases List.mem_append.1 hn with hn|hn
  ·have:=h.2 n hn;omega
  ·simp at hn;omega
theorem Stamped.erase {es:Array MapEntry}{c:Nat}(h:Stamped es c)(i:Nat):Stamped (es.eraseIdxIfInBounds i) c:=by
 have e:(d8 (es.eraseIdxIfInBounds i)).Sublist (d8 es):=by
  unfold d8;rw[Array.toList_eraseIdxIfInBounds];exact(List.eraseIdx_sublist _ _).map _
 exact⟨h.1.sublist e,fun n hn=>h.2 n (e.subset hn)⟩
theorem uV {κ υ:Type}[DecidableEq κ]{x:κ}:∀ {l:List (κ×υ)},gH l x=none->qv l x=l
 | [],_=>rfl
 |(a,b)::r,h=>by
  simp only[gH]at h;split at h
  ·cases h
  ·rename_i hne;simp only[qv,if_neg hne];rw[uV (by cases hm:gH r x with
    |none=>rfl
    |some i=>rw[hm]at h;cases h)]
theorem uW {κ υ:Type}[DecidableEq κ]{x:κ}:∀ {l:List (κ×υ)} {i:Nat},gH l x=some i->qv l x=l.eraseIdx i
 | [],i,h=>by simp[gH]at h
 |(a,b)::r,i,h=>by
  simp only[gH]at h;split at h
  ·rename_i he;cases h;simp[qv,he]
  ·rename_i hne;cases hm:gH r x with
   |none=>rw[hm]at h;cases h
   |some j=>
    rw[hm]at h;simp at h;subst h;simp[qv,hne,uW hm]
theorem lO {h:List Ob}(hp:Hp F own w h){id:Nat}{hd:Hd}(h1:own id=some hd){b:Nat}(hb:hd.bs=[b])(hv:hd.v=.map (some b)){es:Array MapEntry}{c:Nat}(hh:w.heap[b]? =some (.map es c))(es':Array MapEntry)(c':Nat){kk vk:Tag}{l':List (kk.T×vk.T)}{p':Option (Nat×Option kk.T)}
  (hm:∀ own' w',Goes F own w own' w'->MpAt F own' w' kk vk (ct kk vk l' p') es') (hs:Stamped es' c') (hpd:PendOk own kk vk l' es' c' p'):Step F own w (bf h id (.mp kk vk l' p')) own (py w b (.map es' c')):=by
 refine jm hp h1 (b:=b) (by simp[hb]) (by simp[py]) (fun k hk=>zx hk) rfl rfl rfl _ fun g=>⟨b,es',c',hv,hb,?_,hm _ _ g,hs,hpd⟩;have:=iK hh;simp[py,this]
theorem AV {h:List Ob}(hp:Hp F own w h){t:TypeId}{ti:TI}(ht:cr P t=some ti){s sk sv:SV}{v vx vy:Value}(hr:Rel F own w s v)(hrk:Rel F own w sk vx)(hrv:Rel F own w sv vy){r:OR}(he:rO ti h sk sv s=r)(hne:r≠ .bad):
  ∃ ups,r=.eff True True ups .any/\∃ w',(Instr.mapUpdate t v vx vy).run P w=.ok () w'/\Step F own w (aD h ups) own w':=by
 unfold rO at he;split at he
 ·rename_i id;obtain⟨hdd,h1,rfl,h2⟩:=dQ hr;cases ho:ae h id with
  |mp kk vk l pend=>
   rw[ho]at he;simp only[IU]at he;cases hc:fG kk ti.mkt&&fG vk ti.mvt&&noE pend with
   |false=>rw[hc]at he;exact absurd he.symm hne
   |true=>
    rw[hc]at he;simp only[cond_true]at he;simp only[Bool.and_eq_true]at hc;unfold IT at he;split at he
    ·rename_i x y hx hy;subst he;obtain⟨kt,e,q1,q2,q3⟩:=oQ ht (im hc.1.1) (im hc.1.2);obtain⟨hd',e0,b,es,clk,m1,m2,m3,m4,m5,_⟩:=hp.at ho rfl;rw[h1]at e0;cases e0;rw[fL hc.2]at m4;have rx:=ko hrk hx;have ry:=ko hrv hy;have hg:(getObj b).run P w=.ok (.map es clk) w:=by simp[getObj,Sem.run,m3]
     have hset:∀ o,(setObj b o).run P w=.ok () (py w b o):=fun o=>by simp[setObj,Sem.run,m3,py]
     have hck:=lp q2 rx false;have hfk:=my q2 rx m4.1 (fun i p hp=>by obtain⟨e,e1,e2,e3,_⟩:=m4.2 i p hp;exact⟨e,e1,e3⟩);refine⟨_,rfl,?_⟩;simp only[aD];cases hmi:gH l x with
     |none=>
      obtain⟨_,n2,_⟩:=lN hmi;have:=lO hp h1 m2 m1 m3 (es.push ⟨vx,vy,clk⟩) (clk+1) (l':=fe kk vk l x y) (p':=none) (fun own' w' g=>by
       simp only[ct,fe,n2];exact MpAt.push g m4 rx ry clk) (m5.push vx vy) trivial
      refine⟨_,?_,this⟩;rw[hmi]at hfk;simp only[m1,Instr.mapUpdate,Sem.run_bind,run_underlying q1,Result.andThen_ok,hg,hck,hfk,Option.bind_none,hset]
     |some i=>
      obtain⟨y',n1,n2,n3,_⟩:=kE hmi;obtain⟨e',k1,k2,k3,k4⟩:=m4.2 i _ n1;have:=lO hp h1 m2 m1 m3 (es.modify i fun e=>{ e with key:=vx,val:=vy}) clk (l':=fe kk vk l x y) (p':=none) (fun own' w' g=>by
       simp only[ct,fe,n3];exact MpAt.upd g m4 rx ry (List.getElem?_eq_some_iff.1 n1).1) (m5.modify fun _=>rfl) trivial
      refine⟨_,?_,this⟩;rw[hmi]at hfk;have hst:=AU q2 k3 rx;simp only[m1,Instr.mapUpdate,Sem.run_bind,run_underlying q1,Result.andThen_ok,hg,hck,hfk,Option.bind_some,k1,Option.map_some,Option.getD_some,hst,hset]
    ·exact absurd he.symm hne
  |_=>rw[ho]at he;exact absurd he.symm hne
 ·exact absurd he.symm hne
theorem F4 {h:List Ob}(hp:Hp F own w h){t:TypeId}{ti:TI}(ht:cr P t=some ti){l:List SV}{vs:Array Value}(hl:RelL F own w l vs){r:OR}(he:oK ti h l=r)(hne:r≠ .bad){tys:Array TypeId}(hty:tys[0]? =some t)(ty:TypeId):
  ∃ ups,r=.eff True True ups .any/\∃ u w',(Builtin.delete_ tys ty vs).run P w=.ok u w'/\Step F own w (aD h ups) own w':=by
 unfold oK at he;split at he
 ·rename_i id sk;obtain⟨vs⟩:=vs;have hsz:=hl.1;match vs,hsz with
  | [v0,vx],_=>
  have hr:Rel F own w (.os id) v0:=hl.2 0 _ rfl;have hrk:Rel F own w sk vx:=hl.2 1 _ rfl;obtain⟨hdd,h1,rfl,h2⟩:=dQ hr;cases ho:ae h id with
  |mp kk vk l pend=>
   rw[ho]at he;simp only[IX]at he;cases hc:fG kk ti.mkt&&fG vk ti.mvt&&noE pend with
   |false=>rw[hc]at he;exact absurd he.symm hne
   |true=>
    rw[hc]at he;simp only[cond_true]at he;simp only[Bool.and_eq_true]at hc;unfold IW at he;split at he
    ·rename_i x hx;subst he;obtain⟨kt,e,q1,q2,q3⟩:=oQ ht (im hc.1.1) (im hc.1.2);obtain⟨hd',e0,b,es,clk,m1,m2,m3,m4,m5,_⟩:=hp.at ho rfl;rw[h1]at e0;cases e0;rw[fL hc.2]at m4;have rx:=ko hrk hx;have hg:(getObj b).run P w=.ok (.map es clk) w:=by simp[getObj,Sem.run,m3]
     have hset:∀ o,(setObj b o).run P w=.ok () (py w b o):=fun o=>by simp[setObj,Sem.run,m3,py]
     have hck:=lp q2 rx es.isEmpty;have hfk:=my q2 rx m4.1 (fun i p hp=>by obtain⟨e,e1,e2,e3,_⟩:=m4.2 i p hp;exact⟨e,e1,e3⟩);refine⟨_,rfl,?_⟩;simp only[aD];cases hmi:gH l x with
     |none=>
      have:=lO hp h1 m2 m1 m3 es clk (l':=kJ kk vk l x) (p':=none) (fun own' w' g=>by
       simp only[ct,kJ,uV hmi];exact m4.carry g.carries) m5 trivial
      refine⟨.tuple #[],_,?_,this⟩;rw[hmi]at hfk;simp only[m1,Builtin.delete_,hty,List.getElem?_toArray,List.getElem?_cons_zero,List.getElem?_cons_succ,Sem.run_bind,run_underlying q1,Result.andThen_ok,hg,hck,hfk,Option.bind_none,hset,Sem.run_pure]
     |some i=>
      obtain⟨y',n1,n2,n3,_⟩:=kE hmi;obtain⟨e',k1,k2,k3,k4⟩:=m4.2 i _ n1;have:=lO hp h1 m2 m1 m3 (es.eraseIdxIfInBounds i) clk (l':=kJ kk vk l x) (p':=none) (fun own' w' g=>by
       simp only[ct,kJ,uW hmi];exact MpAt.erase g m4 i) (m5.erase i) trivial
      refine⟨.tuple #[],_,?_,this⟩;rw[hmi]at hfk;simp only[m1,Builtin.delete_,hty,List.getElem?_toArray,List.getElem?_cons_zero,List.getElem?_cons_succ,Sem.run_bind,run_underlying q1,Result.andThen_ok,hg,hck,hfk,Option.bind_some,k1,Option.map_some,hset,Sem.run_pure]
    ·exact absurd he.symm hne
  |_=>rw[ho]at he;exact absurd he.symm hne
 ·exact absurd he.symm hne
theorem zz {es:Array MapEntry}{i:Nat}{e':MapEntry}(k1:es[i]? =some e')(vx:Value):(es.modify i fun e=>{ e with key:=vx})=es.modify i fun e=>{ e with key:=vx,val:=e'.val}:=by
 apply Array.ext
 ·simp
 ·intro j h1 h2;simp only[Array.getElem_modify];split
  ·rename_i hij;subst hij;have hle:i<es.size:=by simpa using h1
   have:es[i]=e':=by rw[Array.getElem?_eq_getElem hle]at k1;simpa using k1
   rw[this]
  ·rfl
theorem F5 {h:List Ob}(hp:Hp F own w h){nx:Nat}(hn:NxOk own h nx){t:TypeId}{ti:TI}(ht:cr P t=some ti){s sk:SV}{v vx:Value}(hr:Rel F own w s v)(hrk:Rel F own w sk vx){r:OR}(he:od ti nx h sk s=r)(hne:r≠ .bad):
  ru F own w h ((Instr.mapEntry t v vx).run P w) r:=by
 unfold od at he;split at he
 ·rename_i id;obtain⟨hdd,h1,rfl,h2⟩:=dQ hr;cases ho:ae h id with
  |mp kk vk l pend=>
   rw[ho]at he;simp only[BJ]at he;cases hc:fG kk ti.mkt&&fG vk ti.mvt&&noE pend with
   |false=>rw[hc]at he;exact absurd he.symm hne
   |true=>
    rw[hc]at he;simp only[cond_true]at he;simp only[Bool.and_eq_true]at hc;unfold BI at he;split at he
    ·rename_i x hx;subst he;obtain⟨kt,e,q1,q2,q3⟩:=oQ ht (im hc.1.1) (im hc.1.2);obtain⟨hd',e0,b,es,clk,m1,m2,m3,m4,m5,_⟩:=hp.at ho rfl;rw[h1]at e0;cases e0;rw[fL hc.2]at m4;have rx:=ko hrk hx;obtain⟨i,hi,htag⟩:=qD q3;have hz:∃ z,i.zero=some z:=by
      have:=qC htag;simp only[qu,Bool.and_eq_true]at this;cases hz:i.zero with
      |none=>rw[hz]at this;simp at this
      |some z=>exact⟨z,rfl⟩
     obtain⟨z,hz⟩:=hz;have hzr:=xV (F:=F) (own:=own) (w:=w) htag hz;have hzv:(zeroValue e).run P w=.ok z w:=by simp[zeroValue,typeInfo,hi,hz]
     have hg:(getObj b).run P w=.ok (.map es clk) w:=by simp[getObj,Sem.run,m3]
     have hset:∀ o,(setObj b o).run P w=.ok () (py w b o):=fun o=>by simp[setObj,Sem.run,m3,py]
     have hck:=lp q2 rx false;have hfk:=my q2 rx m4.1 (fun i p hp=>by obtain⟨e,e1,e2,e3,_⟩:=m4.2 i p hp;exact⟨e,e1,e3⟩);have hidn:id≠nx:=fun e=>by rw[e,hn.none]at h1;cases h1
     have st1:∀ n:Nat,Step F own w (bf h nx (.fwd none)) (own.move [] nx ⟨none,.int .i64 n,[],[]⟩) w:=fun n=>
      eM (nx:=nx) hp hn [] (by simp) ⟨none,.int .i64 n,[],[]⟩ (.fwd none) (fun b hb=>by simp at hb) (fun _ _ _=>rfl) (Nat.le_refl _) rfl rfl rfl fun own' g i hi=>by cases hi
     have go:∀ n:Nat,(own.move [] nx ⟨none,.int .i64 n,[],[]⟩) id=some hdd:=fun n=>by simp[Own.move,hidn,h1]
     have gx:∀ n:Nat,(own.move [] nx ⟨none,.int .i64 n,[],[]⟩) nx=some ⟨none,.int .i64 n,[],[]⟩:=fun n=>by simp[Own.move]
     have fin:∀ (n:Nat) (es':Array MapEntry) (c':Nat),(∀ own' w',Goes F own w own' w'->MpAt F own' w' kk vk (ct kk vk l (some (nx,some x))) es')->Stamped es' c'->(∃ e,es'[kf kk vk l x]? =some e/\e.born=n)->
       Step F own w (aD h [(nx,.fwd none),(id,.mp kk vk l (some (nx,some x)))]) (own.move [] nx ⟨none,.int .i64 n,[],[]⟩) (py w b (.map es' c')):=fun n es' c' hm hs hpd=>by
      obtain⟨e1,p1,p2⟩:=hpd;have s1:=st1 n;have s2:=lO s1.hp (go n) m2 m1 m3 es' c' (l':=l) (p':=some (nx,some x)) (fun own' w' g=>hm _ _ ⟨fun id hd h=>by obtain⟨hd',a,b⟩:=s1.fr.goes.ids (F:=F) id hd h;obtain⟨hd2,a2,b2⟩:=g.ids _ _ a;exact⟨hd2,a2,b.trans b2⟩,fun b hb hn=>by
       obtain⟨a1,a2⟩:=s1.fr.goes.keep b hb hn;obtain⟨a3,a4⟩:=g.keep b hb a1;exact⟨a3,a4⟩,g.size⟩) hs ⟨_,e1,gx n,p1,by rw[p2]⟩
      refine⟨s2.hp,s1.fr.trans s2.fr,fun j hj hd=>?_⟩;have hd2:bZ (ae (bf (bf h nx (.fwd none)) id (.mp kk vk l (some (nx,some x)))) j)=true:=hd;rw[b8,b8]at hd2;by_cases e:j=nx
      ·subst e;rw[if_neg hidn,if_pos rfl]at hd2;cases hd2
      ·simp[Own.move,e,hj]
     cases hmi:gH l x with
     |none=>
      obtain⟨n1,n2,n3⟩:=lN hmi;have hpos:kf kk vk l x=es.size:=by rw[m4.1];simp[kf,n3]
      have:=fin clk (es.push ⟨vx,z,clk⟩) (clk+1) (fun own' w' g=>by
       simp only[ct,n1,Option.isSome_none,Bool.false_eq_true,if_false];exact MpAt.push g m4 rx hzr clk) (m5.push vx z) ⟨⟨vx,z,clk⟩,by rw[hpos];simp,rfl⟩
      refine⟨_,_,_,_,rfl,fun _=>⟨trivial,.tuple #[z,.int .i64 clk],_,_,?_,.tup rfl fun j s hj=>?_,this⟩⟩
      ·rw[hmi]at hfk;simp only[m1,Instr.mapEntry,Sem.run_bind,run_underlying q1,Result.andThen_ok,hg,hck,hfk,Option.bind_none,hzv,hset];simp[goInt]
      ·match j,hj with
       |0,hj=>cases hj;have:=hzr.mono this.fr.goes;simpa[dG,n1]using this
       |1,hj=>cases hj;exact .os (gx clk) rfl
     |some i=>
      obtain⟨y',n1,n2,n3,n4⟩:=kE hmi;obtain⟨e',k1,k2,k3,k4⟩:=m4.2 i _ n1;have hes':=zz k1 vx;have hpos:kf kk vk l x=i:=n4;have:=fin e'.born (es.modify i fun e=>{ e with key:=vx}) clk (fun own' w' g=>by
       simp only[ct,n2,Option.isSome_some,if_true];rw[hes'];have:=MpAt.upd g m4 rx k4 (List.getElem?_eq_some_iff.1 n1).1
       rwa[show l.set i (x,y')=l by
        apply List.ext_getElem?;intro j;rw[List.getElem?_set];by_cases hij:i=j
        ·subst hij;rw[if_pos rfl,if_pos (List.getElem?_eq_some_iff.1 n1).1,n1]
        ·rw[if_neg hij]]at this) (m5.modify fun _=>rfl) ⟨{ e' with key:=vx},by rw[hpos];simp[Array.getElem?_modify,k1],rfl⟩
      refine⟨_,_,_,_,rfl,fun _=>⟨trivial,.tuple #[e'.val,.int .i64 e'.born],_,_,?_,.tup rfl fun j s hj=>?_,this⟩⟩
      ·rw[hmi]at hfk;have hst:=AU q2 k3 rx;simp only[m1,Instr.mapEntry,Sem.run_bind,run_underlying q1,Result.andThen_ok,hg,hck,hfk,Option.bind_some,k1,Option.map_some,Option.getD_some,hst,hset];simp[goInt]
      ·match j,hj with
       |0,hj=>cases hj;have:=k4.mono this.fr.goes;simpa[dG,n2]using this
       |1,hj=>cases hj;exact .os (gx _) rfl
    ·exact absurd he.symm hne
  |_=>rw[ho]at he;exact absurd he.symm hne
 ·exact absurd he.symm hne
theorem DB {es:Array MapEntry}{i:Nat}{e:MapEntry}(hb:(d8 es).Nodup)(hi:es[i]? =some e):es.findIdx? (fun x=>(x.born:Int) ==(e.born:Int))=some i:=by
 obtain⟨hn,he⟩:=Array.getElem?_eq_some_iff.1 hi;rw[Array.findIdx?_eq_some_iff_getElem];refine⟨hn,by simp[he],fun j hj=>?_⟩;simp only[beq_iff_eq];intro hc;have hjl:j< (d8 es).length:=by simp[d8];omega
 have hil:i< (d8 es).length:=by simp[d8];omega
 have hlt:=List.pairwise_iff_getElem.1 hb j i hjl hil hj;apply hlt;simp only[d8,List.getElem_map,Array.getElem_toList,he];omega
theorem F6 {h:List Ob}(hp:Hp F own w h){t:TypeId}{ti:TI}(ht:cr P t=some ti){s ss sv:SV}{v vs vy:Value}(hr:Rel F own w s v)(hrs:Rel F own w ss vs)(hrv:Rel F own w sv vy){r:OR}(he:wc ti h sv s ss=r)(hne:r≠ .bad):
  ∃ c ups,r=.eff c True ups .any/\(c->∃ w',(Instr.entryStore t v vs vy).run P w=.ok () w'/\Step F own w (aD h ups) own w'):=by
 unfold wc at he;split at he
 ·rename_i id n;obtain⟨hdd,h1,rfl,h2⟩:=dQ hr;obtain⟨hds,s1,rfl,_⟩:=dQ hrs;cases ho:ae h id with
  |mp kk vk l pend=>
   rw[ho]at he;cases pend with
   |none=>exact absurd he.symm hne
   |some q=>
   obtain⟨n',q⟩:=q;cases q with
   |none=>exact absurd he.symm hne
   |some x=>
   simp only[FP]at he;cases hc:fG kk ti.mkt&&fG vk ti.mvt&&Nat.beq n' n with
   |false=>rw[hc]at he;exact absurd he.symm hne
   |true=>
    rw[hc]at he;simp only[cond_true]at he;simp only[Bool.and_eq_true]at hc;have hnn:=Nat.eq_of_beq_eq_true hc.2;subst hnn;unfold IV at he;split at he
    ·rename_i y hy;subst he;obtain⟨hd',e0,b,es,clk,m1,m2,m3,m4,m5,hd2,e',t1,k1,t3⟩:=hp.at ho rfl;rw[h1]at e0;cases e0;rw[s1]at t1;cases t1;have ry:=ko hrv hy;refine⟨_,_,rfl,fun _=>?_⟩;simp only[aD];have hg:(getObj b).run P w=.ok (.map es clk) w:=by simp[getObj,Sem.run,m3]
     have hset:∀ o,(setObj b o).run P w=.ok () (py w b o):=fun o=>by simp[setObj,Sem.run,m3,py]
     have hpos:∃ y0,(ct kk vk l (some (n',some x)))[kf kk vk l x]? =some (x,y0)/\fe kk vk l x y=(ct kk vk l (some (n',some x))).set (kf kk vk l x) (x,y):=by
      cases hmi:gH l x with
      |none=>
       obtain⟨n1,n2,n3⟩:=lN hmi;refine⟨di vk,?_,?_⟩
       ·simp[ct,n1,kf,n3]
       ·simp[ct,n1,kf,n3,fe,n2]
      |some i=>
       obtain⟨y',n1,n2,n3,n4⟩:=kE hmi;exact⟨y',by simp[ct,n2,kf,n4,n1],by simp[ct,n2,kf,n4,fe,n3]⟩
     obtain⟨y0,p1,p2⟩:=hpos;obtain⟨e'',k1',k2,k3,k4⟩:=m4.2 _ _ p1;rw[k1]at k1';cases k1';have hlt:kf kk vk l x<es.size:=(Array.getElem?_eq_some_iff.1 k1).1;have hes':(es.modify (kf kk vk l x) fun e=>{ e with val:=vy})=es.modify (kf kk vk l x) fun e=>{ e with key:=e'.key,val:=vy}:=by
      apply Array.ext
      ·simp
      ·intro j h1 h2;simp only[Array.getElem_modify];split
       ·rename_i hij;subst hij;have:es[kf kk vk l x]=e':=by rw[Array.getElem?_eq_getElem (by simpa using h1)]at k1;simpa using k1
        rw[this]
       ·rfl
     have:=lO hp h1 m2 m1 m3 (es.modify (kf kk vk l x) fun e=>{ e with val:=vy}) clk (l':=fe kk vk l x y) (p':=none) (fun own' w' g=>by
      simp only[ct];rw[hes',p2];exact MpAt.upd g m4 k3 ry (by rw[<-m4.1];exact hlt)) (m5.modify fun _=>rfl) trivial
     refine⟨_,?_,this⟩;have hfi:=DB m5.1 k1;simp only[m1,t3,Instr.entryStore,Sem.run_bind,hg,Result.andThen_ok,asInt,ll,hfi,hset,Sem.run_pure]
    ·exact absurd he.symm hne
  |_=>rw[ho]at he;exact absurd he.symm hne
 ·exact absurd he.symm hne
end
section
variable {P:Program}{F:Nat->Prop}{own:Own}{w:World}
theorem GridIn.swap {k:Tag}{m:List k.T}{v:Value}{bn:List Nat}(h1:jF v=true)(hm:RowRel F own w k m v bn):∀ {l:List (List k.T)} {vs:List Value} {bs:List Nat} {i:Nat},GridIn F own w k l vs bs->i<l.length->bs.Nodup->bn.Nodup->(∀ b∈bs,b ∉ bn)->
  ∃ bs',GridIn F own w k (l.set i m) (vs.set i v) bs'/\(∀ b∈bs',b∈bs\/b∈bn)/\bs'.Nodup
 |l::ls,u::vs,bs,0,⟨b1,b2,e,h0,h2,h3⟩,_,hn,hbn,hd=>by
  subst e;have hn':=List.nodup_append.1 hn;refine⟨bn++b2,⟨bn,b2,rfl,h1,hm,h3⟩,fun b hb=>?_,List.nodup_append.2 ⟨hbn,hn'.2.1,fun a ha b hb e=>hd b (List.mem_append_right _ hb) (e▸ha)⟩⟩;rcases List.mem_append.1 hb with q|q
  ·exact .inr q
  ·exact .inl (List.mem_append_right _ q)
 |l::ls,u::vs,bs,i+1,⟨b1,b2,e,h0,h2,h3⟩,hi,hn,hbn,hd=>by
  subst e;have hn':=List.nodup_append.1 hn;obtain⟨bs',q1,q2,q3⟩:=GridIn.swap h1 hm h3 (by simpa using hi) hn'.2.1 hbn fun b hb=>hd b (List.mem_append_right _ hb);refine⟨b1++bs',⟨b1,bs',rfl,h0,h2,q1⟩,fun b hb=>?_,List.nodup_append.2 ⟨hn'.1,q3,fun a ha b hb e=>?_⟩⟩
  ·rcases List.mem_append.1 hb with q|q
   ·exact .inl (List.mem_append_left _ q)
   ·exact(q2 b q).imp (List.mem_append_right _) id
  ·rcases q2 b hb with q|q
   ·exact hn'.2.2 a ha b q e
   ·exact hd a (List.mem_append_left _ ha) (e▸q)
 | [],_,_,_,_,hi,_,_,_=>absurd hi (Nat.not_lt_zero _)
 |_::_,[],_,_,h,_,_,_,_=>h.elim
theorem Step.fwd {h1:List Ob}{own1:Own}{w1:World}(s:Step F own w h1 own1 w1){id nx:Nat}{hd0 hd':Hd}(hid:own1 id=some hd0)(hb:hd0.bs=[])(hnx:own1 nx=some hd')(hv:hd'.v=hd0.v)(h0:jF hd0.v=true)(hl:id<h1.length)(ho:own id≠none):
  Step F own w (bf h1 id (.fwd (some nx))) own1 w1:=by
 have hat:∀ j,ae (bf h1 id (.fwd (some nx))) j=if id=j then .fwd (some nx)else ae h1 j:=fun j=>b8 ..;have hlen:(bf h1 id (.fwd (some nx))).length=h1.length:=by rw[bv,if_pos hl]
 refine⟨s.hp.upd (Goes.refl _ _ _) (fun j=>j=id) (by rw[hlen];exact Nat.le_refl _) (fun j hj=>⟨rfl,by rw[hat,if_neg (fun e=>hj e.symm)],fun _ _ _ _=>rfl⟩) (fun j hd hj e=>?_) (fun j hj _=>?_),s.fr,fun j hj hd=>?_⟩
 ·subst hj;rw[hid]at e;cases e;exact⟨by rw[hlen];exact hl,fun b q=>by rw[hb]at q;cases q⟩
 ·subst hj;refine⟨hd0,hid,?_⟩;rw[hat,if_pos rfl];intro i e;cases e;exact⟨hd',hnx,hv,h0⟩
 ·have hne:id≠j:=fun e=>ho (e▸hj);rw[hat,if_neg hne]at hd;exact s.fresh j hj hd
theorem B_ {h:List Ob}(hp:Hp F own w h){nx:Nat}(hn:NxOk own h nx){t:TypeId}{ti:TI}(ht:cr P t=some ti){id rid:Nat}{i:Int}{k:Tag}{l:List (List k.T)}{m:List k.T}{v vx:Value}(hr:Rel F own w (.rp 1 id i 0) v)(hrx:Rel F own w (.os rid) vx)(hne:id≠rid)(hsz:ti.size=1)
  (ho:ae h id=.grid k l) (ho2:ae h rid=.row k m):∃ own' w',(Instr.storeAt t v vx).run P w=.ok () w'/\Step F own w (aD h [(id,.dead),(rid,.dead),(nx,.grid k (l.set i.toNat m)),(id,.fwd (some nx))]) own' w':=by
 cases hr with
 |rp h1 h2 h3=>
 rename_i n cap b o hd;obtain⟨hd2,g1,rfl,g2⟩:=dQ hrx;obtain⟨hd',e0,e⟩:=hp.at ho rfl;rw[h1]at e0;cases e0;obtain⟨hd2',e0,hm⟩:=hp.at ho2 rfl;rw[g1]at e0;cases e0;rcases e with⟨q,_⟩ | ⟨b',o',cap',cs,ty,bs,e1,e2,e3,e4,e5,e6,e7,e8,e9⟩
 ·rw[h2]at q;cases q
 have e1':=e1;rw[h2]at e1;simp only[Value.slice.injEq,Option.some.injEq,Addr.mk.injEq]at e1;obtain⟨⟨rfl,rfl,_⟩,rfl,rfl⟩:=e1;obtain⟨cs',w',q1,q2,q3,q4,q5⟩:=nP (P:=P) ht hrx (xs:=[.os rid]) rfl (by rw[hsz];rfl) (fun j s hj v hv=>by
  cases j with
  |zero=>simp at hj;subst hj;obtain⟨hd3,_,rfl,k2⟩:=dQ hv;exact fK k2
  |succ j=>simp at hj) (off:=o+i.toNat) e4 (by simp;omega)
 have hnd:bs.Nodup/\b ∉ bs:=by rw[e2,List.nodup_cons]at e3;exact⟨e3.2,e3.1⟩
 have hbb:b∈hd.bs:=by rw[e2];exact List.mem_cons_self
 have hdis:∀ c∈hd.bs,c ∉ hd2.bs:=fun c hc hc2=>hne (hp.inj id rid hd hd2 c h1 g1 hc hc2);have hnd2:hd2.bs.Nodup:=by rcases hm.blocks with e| ⟨c,e⟩ <;>rw[e] <;>simp
 obtain⟨bs',r1,r2,r3⟩:=e9.swap (i:=i.toNat) g2 hm h3 hnd.1 hnd2 (fun c hc=>hdis c (by rw[e2];exact List.mem_cons_of_mem _ hc));have hb':b ∉ bs':=fun hm=>by
  rcases r2 b hm with q|q
  ·exact hnd.2 q
  ·exact hdis b hbb q
 have hK:∀ id'∈[id,rid],∃ hd,own id'=some hd:=by simp;exact⟨⟨_,h1⟩,⟨_,g1⟩⟩
 have hKl:id<h.length:=hp.dom _ _ h1;have hnk:nx ∉ [id,rid]:=fun hm=>by obtain⟨hd,e⟩:=hK nx hm;rw[hn.none]at e;cases e
 have hu:cs'[o+i.toNat]? =some hd2.v:=by
  obtain⟨u,k1,k2⟩:=q4 (o+i.toNat) (Nat.le_refl _) (by simp);obtain⟨hd3,k3,k4,_⟩:=dQ (k2 (.os rid) (by simp));rw[g1]at k3;cases k3;rw[k1,k4]
 have st:=eM (w':=w') hp hn [id,rid] hK ⟨none,hd.v,hd.vs.set i.toNat hd2.v,b::bs'⟩ (.grid k (l.set i.toNat m)) (fun c hc=>by
   left;rcases List.mem_cons.1 hc with rfl|hc
   ·exact⟨id,by simp,hd,h1,hbb⟩
   ·rcases r2 c hc with q|q
    ·exact⟨id,by simp,hd,h1,by rw[e2];exact List.mem_cons_of_mem _ q⟩
    ·exact⟨rid,by simp,hd2,g1,q⟩)
  (fun c _ hno=>q2.other c fun e=>hno ⟨id,by simp,hd,h1,e▸hbb⟩) (by rw[q2.size];exact Nat.le_refl _) q2.os q2.tape q2.output
  (fun own' g=>.inr ⟨b,o,cap,cs',ty,bs',by simpa using e1',rfl,List.nodup_cons.2 ⟨hb',r3⟩,q2.here,by rw[q3];exact e5,by simpa using e6,by simpa using e7,fun j u hj=>by
    rw[List.getElem?_set]at hj;by_cases hji:i.toNat=j
    ·subst hji;rw[if_pos rfl]at hj;split at hj
     ·cases hj;exact hu
     ·cases hj
    ·rw[if_neg hji]at hj;rw[q5 (o+j) (by simp;omega)];exact e8 j u hj,r1.carry g.carries fun c hc=>q2.other c fun e=>hb' (e▸hc)⟩)
 have hmv:=fI nx (.grid k (l.set i.toNat m)) [id,rid] h 0 hnk (fun j hj=>by obtain⟨hd,e⟩:=hK j hj;exact hp.dom _ _ e);have hidn:id≠nx:=fun e=>hnk (e▸by simp);have:=st.fwd (id:=id) (nx:=nx) (hd0:= { hd with bs:=[]}) (hd':=⟨none,hd.v,hd.vs.set i.toNat hd2.v,b::bs'⟩) (by simp[Own.move,hidn,h1]) rfl (by simp[Own.move]) rfl (by show jF hd.v=true;rw[h2];rfl) (Nat.lt_of_lt_of_le hKl hmv.2.1) (by rw[h1];simp);exact⟨_,w',by simpa using q1,this⟩
theorem s6 {k:Tag}(a:Option Addr):∀ n:Nat,GridIn F own w k (List.replicate n []) (List.replicate n (.slice a 0 0)) []
 |0=>rfl
 |n+1=>⟨[],[],rfl,rfl,.inl ⟨a,rfl,rfl,rfl⟩,s6 a n⟩
theorem F7 {h:List Ob}(hp:Hp F own w h){nx:Nat}(hn:NxOk own h nx){t:TypeId}{ti te tr:TI}(ht:cr P t=some ti)(hte:cr P ti.elem=some te)(hsl:ti.isSlice=true){sl sc:SV}{vl vc:Value}(hrl:Rel F own w sl vl)(hrc:Rel F own w sc vc){r:OR}(he:um nx te tr sl sc=r)(hne:r≠ .bad):
  ru F own w h ((Instr.makeSlice t vl vc).run P w) r:=by
 obtain⟨i,d,z,hi,hd,hz,hq,rfl⟩:=aY ht;obtain⟨ie,de,ze,hie,hde,hze,hqe,hte'⟩:=aY hte;cases d <;>simp[ci]at hsl;rename_i e;simp only[ci]at hie;unfold um at he;split at he
 ·rename_i n c;have el:=bo hrl;have ec:=bo hrc;subst el;subst ec;unfold FN at he;split at he
  ·rename_i k htag;cases hcz:Nat.beq te.size 1&&C_ te.zero&&Nat.ble 1 te.bytes with
   |false=>rw[hcz]at he;exact absurd he.symm hne
   |true=>
   rw[hcz]at he;simp only[cond_true]at he;subst he;simp only[Bool.and_eq_true]at hcz;have hes:te.size=ie.size:=by rw[hte'];rfl
   have heb:te.bytes=ie.bytes:=by rw[hte'];rfl
   have hez:te.zero=svs ze:=by rw[hte'];simp[ci,hze]
   have t1:ie.size=1:=by rw[<-hes];exact Nat.eq_of_beq_eq_true hcz.1.1
   have hzc:ze.cells= #[.slice none 0 0]:=by
    have:=hcz.1.2;rw[hez]at this;unfold C_ at this;split at this
    ·rename_i q;unfold svs at q;have q2:ze.cells.toList=[.slice none 0 0]:=by
      match hl:ze.cells.toList,q with
      | [y],q=>simp[hl]at q;rw[q]
      | [],q=>simp[hl]at q
      |_::_::_,q=>simp[hl]at q
     exact Array.ext' q2
    ·cases this
   refine⟨_,_,_,_,rfl,fun⟨hc1,hc2,hc3⟩ =>?_⟩;subst hc1;rw[heb]at hc3;have hby:1<=ie.bytes:=by rw[<-heb];exact nbl hcz.2
   have hnb:n<=n*(ie.bytes:Int):=by
    have:n*1<=n*(ie.bytes:Int):=Int.mul_le_mul_of_nonneg_left (by omega) hc2;omega
   have hnm:n<=(bR:Int):=by unfold fY at hc3;unfold bR;omega
   refine⟨hnm,?_⟩;have hrun:=run_make (P:=P) w t e ie ze hd hie hze .i64 .i64 n n hc2 (Int.le_refl _) (by rw[Int.mul_comm];unfold fY at hc3;omega) (by unfold bR at hnm;omega);refine⟨_,_,_,hrun,Rel.os (F:=F) (id:=nx) (hd:=⟨none,.slice (some ⟨w.heap.size,0,none⟩) n.toNat n.toNat,List.replicate n.toNat (.slice none 0 0),[w.heap.size]⟩) (Own.set_same _ _ _) rfl,lK hp hn (w1:=w) ⟨rfl,rfl,rfl,rfl⟩ _ _ _ rfl fun own' g=>.inr ⟨w.heap.size,0,n.toNat,_,e,[],by simp,rfl,by simp,fR _ _,?_,by simp,by simp;omega,fun q x hx=>?_,s6 none _⟩⟩
   ·rw[size_madeCells,t1];omega
   ·have hql:q<n.toNat:=by have:=(List.getElem?_eq_some_iff.1 hx).1;simpa using this
    have hxd:x=.slice none 0 0:=List.eq_of_mem_replicate (List.mem_of_getElem? hx);subst hxd;rw[Nat.zero_add];have hlt:q<n.toNat*1:=by omega
    simp only[madeCells,Array.getElem?_map,t1,Array.getElem?_range,hlt,if_true,Option.map_some,hzc];simp[Nat.mod_one]
  ·exact absurd he.symm hne
 ·exact absurd he.symm hne
theorem Ca {h:List Ob}(hp:Hp F own w h){nx:Nat}(hn:NxOk own h nx){t:TypeId}{ti:TI}(ht:cr P t=some ti){s sx:SV}{v vx:Value}(hr:Rel F own w s v)(hrx:Rel F own w sx vx){r:OR}
  (he:j5 ti.size nx h s sx=r) (hne:r≠ .bad):∃ ups own' w',r=.eff True True ups .any/\(Instr.storeAt t v vx).run P w=.ok () w'/\Step F own w (aD h ups) own' w':=by
 have old:jZ ti.size h s (jf sx)=r->∃ ups own' w',r=.eff True True ups .any/\(Instr.storeAt t v vx).run P w=.ok () w'/\Step F own w (aD h ups) own' w':=fun he=>by
  obtain⟨ups,e,w',e1,e2⟩:=B6 (P:=P) hp ht hr hrx he hne;exact⟨ups,own,w',e,e1,e2⟩
 unfold j5 at he;split at he
 ·rename_i sz id i off rid;cases hg:v7 (ae h id)with
  |false=>rw[hg]at he;exact old he
  |true=>
   rw[hg]at he;simp only[cond_true]at he;cases hc:Nat.beq ti.size 1&&Nat.beq sz 1&&Nat.beq off 0&& !(Nat.beq id rid)with
   |false=>rw[hc]at he;exact absurd he.symm hne
   |true=>
    rw[hc]at he;simp only[cond_true]at he;simp only[Bool.and_eq_true,Bool.not_eq_true']at hc;have c1:=Nat.eq_of_beq_eq_true hc.1.1.1;have c2:=Nat.eq_of_beq_eq_true hc.1.1.2;have c3:=Nat.eq_of_beq_eq_true hc.1.2;have c4:id≠rid:=fun e=>by rw[e]at hc;simp at hc
    subst c2;subst c3;cases ho:ae h id with
    |grid k l=>
     rw[ho]at he;simp only[sC]at he;cases ho2:ae h rid with
     |row k' m'=>
      rw[ho2]at he;simp only[zb]at he;split at he
      ·rename_i ek;subst ek;obtain⟨own',w',e1,e2⟩:=B_ (P:=P) hp hn ht hr hrx c4 c1 ho ho2;exact⟨_,own',w',he.symm,e1,e2⟩
      ·exact absurd he.symm hne
     |_=>rw[ho2]at he;exact absurd he.symm hne
    |_=>rw[ho]at hg;cases hg
 ·exact old he
theorem s7 {k:Tag}{l:List k.T}{lo hi:Int}(h:hi.toNat<=l.length):(sF k l lo hi).length=l.length:=by
 unfold sF;split
 ·rfl
 ·simp;omega
theorem uq {z:Array Value}{n i:Nat}(h:i<n*z.size):(Builtin.zeroCells z n)[i]? =some (z[i % z.size]!):=by
 simp[Builtin.zeroCells,h]
theorem F8 {α:Type}{z:α}{n i:Nat}{x:α}(h:(List.replicate n z)[i]? =some x):x=z:=List.eq_of_mem_replicate (List.mem_of_getElem? h)
theorem F9 {h:List Ob}(hp:Hp F own w h){t:TypeId}{ti te:TI}(ht:cr P t=some ti)(hte:cr P ti.elem=some te){l:List SV}{vs:Array Value}(hl:RelL F own w l vs){r:OR}(he:oJ ti te h l=r)(hne:r≠ .bad)(ty:TypeId):
  ru F own w h ((Builtin.clear_ #[t] ty vs).run P w) r:=by
 obtain⟨i,d,z,hi,hd,hz,hq,rfl⟩:=aY ht;obtain⟨ie,de,ze,hie,hde,hze,hqe,hte'⟩:=aY hte;unfold oJ at he;split at he
 ·rename_i s id lo hi';obtain⟨vs⟩:=vs;have hsz:=hl.1;match vs,hsz with
  | [v0],_=>
  have hr:Rel F own w (.vw s id lo hi') v0:=hl.2 0 _ rfl;cases hsl:(ci P t i d).isSlice with
  |false=>rw[hsl]at he;exact absurd he.symm hne
  |true=>
  rw[hsl]at he;simp only[cond_true]at he;cases d <;>simp[ci]at hsl;rename_i e;simp only[ci]at hie;cases hr with
  | @vw _ _ cap _ _ hd' a h1 h2 hcap3=>
  cases ho:ae h id with
  |row k m=>
   rw[ho]at he;simp only[IS]at he;cases hc:Nat.beq s (aa k)&&AH k te.tag with
   |false=>rw[hc]at he;exact absurd he.symm hne
   |true=>
    rw[hc]at he;simp only[cond_true]at he;subst he;rw[Bool.and_eq_true]at hc;have hs:=Nat.eq_of_beq_eq_true hc.1;have htag0:te.tag=some k:=by
     cases hq:te.tag with
     |none=>rw[hq]at hc;exact absurd hc.2 (by simp[AH])
     |some b=>rw[hq]at hc;rw[pn (k:=k) (k':=b) hc.2]
    have htag:oo P e ie=some k:=by rw[hte']at htag0;exact htag0
    obtain⟨t1,t2,t3,t4⟩:=pw (F:=F) (own:=own) (w:=w) htag;have hrz:=(t4 ze hze).1;have hzs:ze.cells.size=aa k:=by rw[hrz.1,aQ]
    have hzv:(zeroValue e).run P w=.ok ze w:=by simp[zeroValue,typeInfo,hie,hze]
    obtain⟨hdd,e0,hrow⟩:=hp.at ho rfl;rw[h1]at e0;cases e0;have hrow:RowRel F own w k m hd'.v hd'.bs:=hrow;refine⟨_,_,_,_,rfl,fun _=>⟨trivial,.tuple #[],own,?_⟩⟩;simp only[aD];by_cases hlt:hi'.toNat<=lo.toNat
    ·have hn0:hi'.toNat - lo.toNat=0:=by omega
     refine⟨w,?_,.any _,?_⟩
     ·rw[hn0];cases a <;>simp[Builtin.clear_,run_underlying hd]
     ·rw[sF,if_pos hlt];exact uN hp h1 _ hrow
    ·obtain⟨b,o,n,cap',e1,e2,e3⟩:=h2.resolve_left hlt;subst e3;rcases hrow with⟨a',q1,rfl,q2⟩ | ⟨b',o',cap2,cs,ty2,q1,q2,q3,q4,q5,q6,q7⟩
     ·rw[e1]at q1;cases q1;omega
     ·rw[e1]at q1;simp only[Value.slice.injEq,Option.some.injEq,Addr.mk.injEq]at q1;obtain⟨⟨rfl,rfl,_⟩,rfl,rfl⟩:=q1;subst hs;have hN:(hi'.toNat - lo.toNat)≠0:=by omega
      obtain⟨N,hN'⟩:∃ N,hi'.toNat - lo.toNat=N+1:=⟨hi'.toNat - lo.toNat - 1,by omega⟩;have hmul:lo.toNat*aa k+(hi'.toNat - lo.toNat)*aa k<=cap'*aa k:=by
       rw[<-Nat.add_mul];exact Nat.mul_le_mul_right _ (by omega)
      have hzc:(Builtin.zeroCells ze.cells (hi'.toNat - lo.toNat)).toList.length=(hi'.toNat - lo.toNat)*aa k:=by rw[Array.length_toList,j7,hzs]
      have hone:∀ v∈(Builtin.zeroCells ze.cells (hi'.toNat - lo.toNat)).toList,v.oneCell'=true:=fun v hv=>by
       have hm:v∈ze.cells:=by
        simp only[Builtin.zeroCells]at hv;simp at hv;obtain⟨w9,hv1,hv2⟩:=hv;have hpos:0<ze.cells.size:=by
         rcases Nat.eq_zero_or_pos ze.cells.size with h0|h0
         ·rw[h0]at hv1;omega
         ·exact h0
        have:=Nat.mod_lt w9 hpos;rw[getElem!_pos ze.cells _ this]at hv2;rw[<-hv2];exact Array.getElem_mem _
       obtain⟨j,hj,rfl⟩:=Array.getElem_of_mem hm;have hjl:j< (cellsOf k (di k)).length:=by rw[<-hrz.1];exact hj
       have:=hrz.2 j _ (List.getElem?_eq_getElem hjl);have h9:=r6 (List.getElem?_eq_getElem hjl) this;rw[Array.getD_eq_getD_getElem?,Array.getElem?_eq_getElem hj]at h9;exact fK h9
      obtain⟨cs',w',p1,p2,p3,p4⟩:=eu (P:=P) (b:=b) (o:=o+lo.toNat*aa k) (ty:=ty2) (Builtin.zeroCells ze.cells (hi'.toNat - lo.toNat)).toList 0 w cs q3 (by rw[hzc];omega) hone;refine⟨w',?_,.any _,jm hp h1 (b:=b) (by rw[q2];simp) p2.size p2.other p2.os p2.tape p2.output _ fun g=>.inr ⟨b,o,cap',cs',ty2,?_,q2,p2.here,by rw[p3];exact q4,?_,?_,?_⟩⟩
      ·rw[hN']at p1 |-;simp only[Builtin.clear_,List.getElem?_toArray,List.getElem?_cons_zero,Sem.run_bind,run_underlying hd,Result.andThen_ok,hzv,p1,Sem.run_pure]
      ·rw[e1,s7 (by omega)]
      ·rw[s7 (by omega)];exact q5
      ·rw[s7 (by omega)];exact q6
      ·intro q x hx j s hj;rw[sF,if_neg hlt]at hx;have hjl:j<aa k:=by rw[<-aQ k x];exact(List.getElem?_eq_some_iff.1 hj).1
       rw[p4,hzc];have hql:q<m.length:=by
        have:=(List.getElem?_eq_some_iff.1 hx).1;simp at this;omega
       by_cases hin:lo.toNat<=q/\q<hi'.toNat
       ·have hx':x=di k:=by
         rw[List.append_assoc,List.getElem?_append_right (by simp;omega),List.getElem?_append_left (by simp;omega)]at hx;exact F8 hx
        subst hx';have hlow:lo.toNat*aa k<=q*aa k:=Nat.mul_le_mul_right _ hin.1;have hup:q*aa k+aa k<=hi'.toNat*aa k:=by rw[<-Nat.succ_mul];exact Nat.mul_le_mul_right _ hin.2
        have hsub:(hi'.toNat - lo.toNat)*aa k=hi'.toNat*aa k - lo.toNat*aa k:=Nat.sub_mul _ _ _;rw[if_pos (by omega)];refine⟨ze.cells.getD j undef,?_,(hrz.2 j s hj).mono g⟩;have hidx:o+q*aa k+j - (o+lo.toNat*aa k+0)=(q - lo.toNat)*aa k+j:=by rw[Nat.sub_mul];omega
        rw[hidx,Array.getElem?_toList];have hlt2:(q - lo.toNat)*aa k+j< (hi'.toNat - lo.toNat)*aa k:=by rw[Nat.sub_mul,Nat.sub_mul];omega
        have hmod:((q - lo.toNat)*aa k+j) % aa k=j:=by rw[Nat.mul_comm,Nat.mul_add_mod,Nat.mod_eq_of_lt hjl]
        have:=uq (z:=ze.cells) (n:=hi'.toNat - lo.toNat) (i:=(q - lo.toNat)*aa k+j) (by rw[hzs];exact hlt2);rw[this,hzs,hmod,Array.getD_eq_getD_getElem?,Array.getElem?_eq_getElem (by omega),getElem!_pos ze.cells j (by omega)];rfl
       ·rw[if_neg (by
         rintro⟨a1,a2⟩;apply hin;rw[Nat.sub_mul]at a2;refine⟨?_,?_⟩
         ·apply Classical.byContradiction;intro hc;have:(q+1)*aa k<=lo.toNat*aa k:=Nat.mul_le_mul_right _ (by omega);rw[Nat.succ_mul]at this;omega
         ·apply Classical.byContradiction;intro hc;have h5:hi'.toNat*aa k<=q*aa k:=Nat.mul_le_mul_right _ (by omega);have h6:lo.toNat*aa k<=hi'.toNat*aa k:=Nat.mul_le_mul_right _ (by omega);omega)]
        have hx2:m[q]? =some x:=by
         by_cases h0:q<lo.toNat
         ·rw[List.append_assoc,List.getElem?_append_left (by simp;omega),List.getElem?_take,if_pos h0]at hx;exact hx
         ·rw[List.getElem?_append_right (by simp;omega),List.getElem?_drop]at hx;rw[<-hx];congr 1;simp;omega
        obtain⟨u,u1,u2⟩:=q7 q x hx2 j s hj;exact⟨u,u1,u2.mono g⟩
  |_=>rw[ho]at he;exact absurd he.symm hne
 ·exact absurd he.symm hne
end
end Go.Sx
end
section
namespace Go.Sx
variable {P:Program}
theorem ww {w:World}{ty:TypeId}{b bm since c0 clock:Nat}{seen:Array Nat}{es:Array MapEntry}(hb:w.heap[b]? =some (.mapIter (some bm) since seen c0))(hm:w.heap[bm]? =some (.map es clock))(hold:∀ x∈es.toList,x.born<since)(hsc:since<=c0):
  ((leftOf es seen).size=0/\(Instr.next (.pointer (some ⟨b,0,none⟩)) false ty).run P w=.ok (.tuple #[.bool false]) w)\/
  ∃ e∈(leftOf es seen).toList,∃ w1:World,(w1=w\/w1=w.drew)/\(Instr.next (.pointer (some ⟨b,0,none⟩)) false ty).run P w=.ok (.tuple #[.bool true,e.key,e.val]) { w1 with heap:=w1.heap.setIfInBounds b (.mapIter (some bm) since (seen.push e.born) clock)}:=by
 simp only[Instr.next,getObj,Sem.run_bind,Sem.run,hb,hm,Result.andThen,next_test_false seen es since c0 hold hsc,Bool.false_eq_true,if_false];unfold leftOf;have hmem:∀ x∈(Array.filter (fun e=>!seen.contains e.born) es).toList,x.born<since:=fun x hx=>hold x (by simp at hx |-;exact hx.1);generalize Array.filter (fun e=>!seen.contains e.born) es=L at hmem |-;have e1:L.filter (fun x=>decide (x.born<since))=L:=Array.filter_eq_self.2 (fun x hx=>by simpa using hmem x (by simpa using hx));have e2:L.filter (fun x=>decide (x.born>=since))= #[]:=by
  rw[Array.filter_eq_empty_iff];intro x hx;have:=hmem x (by simpa using hx);simp;omega
 simp only[e1,e2,Array.append_empty];by_cases h0:L.size=0
 ·left;have:L= #[]:=Array.eq_empty_of_size_eq_zero h0;subst this;refine⟨rfl,?_⟩;simp[choose,Sem.run,Question.forced]
 ·right;have hne:L.isEmpty=false:=by simp[Array.isEmpty,h0]
  simp only[hne,Bool.false_eq_true,if_false,Array.empty_append,Array.size_map];have hch:∃ (j:Nat) (w1:World),j<L.size/\(w1=w\/w1=w.drew)/\(choose (Question.mapNext L.size)).run P w=.ok j w1:=by
   by_cases hf:L.size<=1
   ·exact⟨0,w,by omega,.inl rfl,by simp[choose,Sem.run,Question.forced,hf]⟩
   ·exact⟨_,w.drew,Nat.mod_lt _ (by omega),.inr rfl,by
     simp only[choose,Sem.run,Question.forced,decide_eq_true_eq,hf,if_false,Question.cut];rfl⟩
  obtain⟨j,w1,hj,hal,hrun⟩:=hch;have hb1:w1.heap[b]? =some (.mapIter (some bm) since seen c0):=by
   rcases hal with rfl|rfl
   ·exact hb
   ·exact hb
  refine⟨L[j],by simp,w1,hal,?_⟩;simp only[hrun,Array.getElem?_map,Array.getElem?_eq_getElem hj,Option.map_some,Sem.run_bind,setObj,Sem.run,hb1,Result.andThen];rfl
theorem ur {w:World}{b bm since clock:Nat}{seen:Array Nat}{es:Array MapEntry}{e:MapEntry}(hb:w.heap[b]? =some (.mapIter (some bm) since (seen.push e.born) clock))(hm:w.heap[bm]? =some (.map es clock))(he:e∈es.toList)(hn:(es.toList.map (·.born)).Nodup):
  (Instr.entry (.pointer (some ⟨b,0,none⟩))).run P w=.ok (.tuple #[e.key,e.val]) w:=by
 have hf:es.find? (·.born==e.born)=some e:=by rw[<-Array.find?_toList];exact find_born e es.toList hn he
 simp only[Instr.entry,getObj,Sem.run_bind,Sem.run,hb,hm,Result.andThen,Array.back?_push,bne_self_eq_false,Bool.false_eq_true,if_false,hf];rfl
end Go.Sx
end
