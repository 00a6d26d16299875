/- Part of the proof that the law RefuseHolds returns true and leaves its arguments as they were, for all arguments of bulk at most 1048576 (the Upto form). -/
import Derived.Test.YtaikmgjfkejlkaaGreatH102
import Derived.Laws.IdiomRangeMap
set_option linter.all false
set_option maxHeartbeats 4000000
set_option maxRecDepth 100000
section
namespace Go.Sx
open Go.RowKit
section
variable {P:Program}{F:Nat->Prop}{own:Own}{w:World}
theorem Q7:∀ {l m:List SV},wS l m=true->∀ {vs:Array Value},ar7 F own w m vs->ar7 F own w l vs:=by
 have one:∀ {a b:SV} {v:Value},SN a b=true->Rel F own w b v->Rel F own w a v:=by
  intro a b v h hr;unfold SN at h;split at h
  grind [QV]
  simp_all;exact hr;have:=c8 hr;subst this;exact .rs0;have:=c8 hr;subst this;exact .rm0;exact hr;cases h
 intro l m h vs hr;have len:∀ {l m:List SV},wS l m=true->l.length=m.length:=by
  intro l;induction l with
  |nil=>grind [wS]
  |cons a l O=>intro m h;cases m with
   |nil=>simp[wS]at h|cons b m=>grind [wS]
 have get:∀ {l m:List SV} (j:Nat) (s:SV),wS l m=true->l[j]? =some s->∃ b,m[j]? =some b/\SN s b=true:=by
  intro l;induction l with
  |nil=>grind
  |cons a l O=>
   intro m j s h E;cases m with
   |nil=>grind
   |cons b m=>
    grind [wS]
 refine⟨by rw[len h];exact hr.1,λj s E=>?_⟩;have⟨b,h1,h2⟩:=get j s h E;exact one h2 (hr.2 j b h1)
theorem S9 {a b:Bool}(h:EM a b=true):a=b:=by cases a <;>cases b <;>simp[EM]at h |-
variable {t:TypeId}{k:Tag}
theorem C3{i:TypeInfo}(h:Aj P t i=some k):FU P t i k=true:=by
 grind [Aj]
def BH{i:TypeInfo}(h:Aj P t i=some k):i.size=aa k/\1<=i.bytes/\lI P t=pP k/\∀ z,i.zero=some z->ar7 F own w (cellsOf k (fg k)) z.cells/\FT z=pP k:=by
 have E:=C3 h;simp only[FU,aoj]at E;refine⟨aok E.1.1.1.2,nbl E.1.1.2,S9 E.2,λz O=>?_⟩;grind [Q7,zu,S9]
theorem C4(h:NN P t=some k):∃ i,P.info? t=some i/\Aj P t i=some k:=by
 grind [NN]
theorem AK {d:Int}{o:Option SV}{v:Option Value}(E:∀ s,o=some s->∃ u,v=some u/\Rel F own w s u)(hn:o=none->v=none){n:Int}(h:bnd d o=some n):(v=none/\n=d)\/∃ k,v=some (.int k n):=by
 unfold bnd at h;grind [c8]
theorem oA {k:IntKind}{n:Int}{y:Nat}{E:BoundsCode}(h:0<=n/\n<=(y:Int)):(Instr.sliceBound (.int k n) y E).run P w=.ok n.toNat w:=by
 simp_all [Instr.sliceBound,vn]
theorem lj {len cap:Nat}{lo hi:Option Value}{a b:Int}(O:(lo=none/\a=0)\/∃ k,lo=some (.int k a))(E:(hi=none/\b=(len:Int))\/∃ k,hi=some (.int k b))(h:0<=a/\a<=b/\b<=(len:Int))(hc:len<=cap):
  (Instr.sliceBounds true len cap lo hi none).run P w=.ok (a.toNat,b.toNat,cap) w:=by
 rcases E with⟨rfl,rfl⟩ | ⟨k2,rfl⟩ <;>rcases O with⟨rfl,rfl⟩ | ⟨V,rfl⟩;simp[Instr.sliceBounds];simp[Instr.sliceBounds,oA (P:=P) (w:=w) (k:=V) (n:=a) (y:=len) ⟨h.1,h.2.1⟩];simp[Instr.sliceBounds,oA (P:=P) (w:=w) (k:=k2) (n:=b) (y:=cap) ⟨g5,g5⟩];simp[Instr.sliceBounds,oA (P:=P) (w:=w) (k:=k2) (n:=b) (y:=cap) ⟨g5,g5⟩,oA (P:=P) (w:=w) (k:=V) (n:=a) (y:=b.toNat) ⟨h.1,g5⟩]
variable {h:List Ob}{ti te:TI}{v:Value}{lo hi:Option SV}{r:OR}
theorem UJ(hp:Hp F own w h){nx:Nat}(hn:asQ own h nx)(ht:ku P t=some ti)(hte:ku P ti.elem=some te){s:SV}(hr:Rel F own w s v){vlo Y:Option Value}
  (h1:∀ s,lo=some s->∃ u,vlo=some u/\Rel F own w s u) (h1':lo=none->vlo=none) (h2:∀ s,hi=some s->∃ u,Y=some u/\Rel F own w s u) (h2':hi=none->Y=none)  {vq:Bool} (hvq:vq=true->hi=none) (O:pc ti te.size nx h lo hi vq s=r) (hne:r≠ .bad):
  (∃ c s',r=.chk c s'/\(c->∃ u,(Instr.sliceAt t v vlo Y none).run P w=.ok u w/\Rel F own w s' u))\/Eg F own w h ((Instr.sliceAt t v vlo Y none).run P w) r:=by
 obtain⟨i,d,z,hi',hd,hz,hq,rfl⟩:=ce ht;obtain⟨ie,de,ze,hie,hde,hze,hqe,hte'⟩:=ce hte;have hes:te.size=ie.size:=by rw[hte'];rfl
 have slice:(eK P t i d).isSlice=true->∃ e,d=.slice e/\P.info? e=some ie:=λhs=>by
  cases d <;>simp[eK]at hs;grind [eK]
 cases hr with
 |rs cf q0 q0' q1 q2=>
  rename_i k l b o cap;left;simp only[pc]at O;cases X:(eK P t i d).isSlice&&Nat.beq te.size (aa k)with
  |false=>grind
  |true=>
   rw[X]at O;simp only[cond_true]at O;simp only[aoj]at X;obtain⟨e,rfl,W⟩:=slice X.1;have hsz:=aok X.2;unfold aav at O;split at O
   rename_i a c ha hc;refine⟨_,_,O.symm,λE=>?_⟩;have b1:=AK h1 h1' ha;have b2:=AK h2 h2' hc;have V:=lj (P:=P) (w:=w) b1 b2 E q0;have hlen:((l.take c.toNat).drop a.toNat).length=c.toNat - a.toNat:=by simp;omega
   refine⟨.slice (if cap=a.toNat then some ⟨b,o,none⟩else some ⟨b,o+a.toNat*ie.size,none⟩) (c.toNat - a.toNat) (cap - a.toNat),?_,?_⟩;simp[Instr.sliceAt,Instr.slice,aoT,run_underlying hd,aoW,V,eb W,aqx,aql,oZ];rw[<-hlen];by_cases hca:cap=a.toNat
   have:(l.take c.toNat).drop a.toNat=[]:=aoE g5;rw[this];exact .rs0;rw[if_neg hca];refine Rel.rs (F:=F) (own:=own) (w:=w) (λi j=>cf (a.toNat+i) j) g5 g5 (λi x hx j s hj=>?_) (λi x hx j s hj=>?_);simp_all <;>grind;grind
   grind
 |rs0=>
  rename_i k a0 cap;left;simp[pc]at O;cases X:(eK P t i d).isSlice&&Nat.beq te.size (aa k)with
  |false=>grind
  |true=>
   rw[X]at O;simp[aoj]at X;obtain⟨e,rfl,W⟩:=slice X.1;unfold aav at O;split at O
   rename_i a c ha hc;refine⟨_,_,O.symm,λE=>?_⟩;have b1:=AK h1 h1' ha;have b2:=AK h2 h2' hc;have V:=lj (P:=P) (w:=w) (cap:=cap) b1 b2 E (aoV _);simp[aoI]at E;have ea:a=0:=g5
   have ec:c=0:=g5
   subst ea;subst ec;refine⟨_,by
    simp[Instr.sliceAt,Instr.slice,aoT,run_underlying hd,aoW];simp[aoI]at V;simp[V,eb W];rfl,?_⟩
   exact .rs0;grind
 |os g1 g2=>
  rename_i id hdd;simp only[pc]at O;cases X:(eK P t i d).isSlice with
  |false=>grind
  |true=>
   rw[X]at O;simp only[cond_true]at O;obtain⟨e,rfl,W⟩:=slice X;cases vq with
   |true=>
    left;cases ho:ap h id with
    |row k l=>
     rw[ho]at O;simp[Wp]at O;cases hb2:Nat.beq te.size (aa k)with
     |false=>grind
     |true=>
      rw[hb2]at O;unfold Wo at O;split at O
      rename_i a ha;refine⟨_,_,O.symm,λE=>?_⟩;have⟨hd',e0,e1⟩:=hp.at ho rfl;rw[g1]at e0;cases e0;have b1:=AK h1 h1' ha;have b2:(Y=none/\(l.length:Int)=(l.length:Int))\/∃ k,Y=some (.int k (l.length:Int)):=.inl ⟨h2' (hvq rfl),rfl⟩;have hcnd':0<=a/\a<=(l.length:Int)/\(l.length:Int)<=(l.length:Int):=⟨E.1,E.2,ao7 _⟩;rcases e1 with⟨a0,m1,rfl,m3⟩ | ⟨b,o,cap,cs,ty,m1,m2,m3,m4,m5,m6,m7⟩;simp[aoI]at E;have ea:a=0:=g5
      subst ea;have V:=lj (P:=P) (w:=w) (cap:=0) b1 b2 hcnd' (aoV _);refine⟨.slice a0 0 0,?_,Rel.vw (lo:=0) (hi:=(([]:List k.T).length:Int)) (cap:=0) (a:=a0) g1 (.inl (by simp)) (by simp)⟩;simp_all [Instr.sliceAt,Instr.slice,run_underlying,eb];have V:=lj (P:=P) (w:=w) b1 b2 hcnd' m5;refine⟨.slice (if cap=a.toNat then some ⟨b,o,none⟩else some ⟨b,o+a.toNat*ie.size,none⟩) ((l.length:Int).toNat - a.toNat) (cap - a.toNat),?_,Rel.vw g1 ?_ g5⟩;rw[m1];simp[Instr.sliceAt,Instr.slice,aoT,run_underlying hd,aoW,V,eb W,aqx,aql,oZ];by_cases hca:cap=a.toNat
      exact .inl g5;rw[if_neg hca];exact .inr ⟨b,o,_,cap,m1,g5,by rw[hes]⟩;grind
    |_=>rw[ho]at O;exact absurd O.symm hne
   |false=>
   right;cases ho:ap h id with
   |row k l=>
    rw[ho]at O;simp only[aax]at O;cases hb2:Nat.beq te.size (aa k)with
    |false=>grind
    |true=>
     rw[hb2]at O;have hsz:=aok hb2;unfold aaw at O;split at O
     rename_i a c ha hc;subst O;have⟨hd',e0,e1⟩:=hp.at ho rfl;rw[g1]at e0;cases e0;have b1:=AK h1 h1' ha;have b2:=AK h2 h2' hc;refine⟨_,_,_,_,rfl,λE=>⟨trivial,?_⟩⟩;have hK:∀ id'∈[id],∃ hd,own id'=some hd:=g6
     have hlen:((l.take c.toNat).drop a.toNat).length=c.toNat - a.toNat:=by simp;omega
     rcases e1 with⟨a0,m1,rfl,m3⟩ | ⟨b,o,cap,cs,ty,m1,m2,m3,m4,m5,m6,m7⟩;simp[aoI]at E;have ea:a=0:=g5
     have ec:c=0:=g5
     subst ea;subst ec;have V:=lj (P:=P) (w:=w) (cap:=0) b1 b2 E (aoV _);refine⟨.slice a0 0 0,_,w,?_,?_,mh hp hn [id] hK ⟨none,.slice a0 0 0,[],[]⟩ _ (λb X=>by simp at X) (λ_ _ _=>rfl) (aom _) rfl rfl rfl λee g=>.inl ⟨a0,rfl,rfl,rfl⟩⟩;simp_all [Instr.sliceAt,Instr.slice,run_underlying,eb];have:=Rel.os (F:=F) (own:=own.move [id] nx ⟨none,.slice a0 0 0,[],[]⟩) (w:=w) (id:=nx) (hd:=⟨none,.slice a0 0 0,[],[]⟩) (by simp[Own.move]) rfl;exact this;have V:=lj (P:=P) (w:=w) b1 b2 E m5;have hrun:(Instr.sliceAt t hdd.v vlo Y none).run P w=.ok (.slice (if cap=a.toNat then some ⟨b,o,none⟩else some ⟨b,o+a.toNat*ie.size,none⟩) (c.toNat - a.toNat) (cap - a.toNat)) w:=by
      rw[m1];simp[Instr.sliceAt,Instr.slice,aoT,run_underlying hd,aoW,V,eb W,aqx,aql,oZ]
     by_cases hca:cap=a.toNat
     have atP:(l.take c.toNat).drop a.toNat=[]:=aoE g5;rw[if_pos hca,show c.toNat - a.toNat=0 by omega,show cap - a.toNat=0 by omega]at hrun;refine⟨_,_,w,hrun,?_,mh hp hn [id] hK ⟨none,.slice (some ⟨b,o,none⟩) 0 0,[],[]⟩ _ (λb X=>by simp at X) (λ_ _ _=>rfl) (aom _) rfl rfl rfl λee g=>.inl ⟨_,rfl,atP,rfl⟩⟩;exact Rel.os (F:=F) (own:=own.move [id] nx ⟨none,.slice (some ⟨b,o,none⟩) 0 0,[],[]⟩) (w:=w) (id:=nx) (hd:=⟨none,.slice (some ⟨b,o,none⟩) 0 0,[],[]⟩) (by simp[Own.move]) rfl;rw[if_neg hca,<-hlen]at hrun;refine⟨_,_,w,hrun,Rel.os (F:=F) (own:=own.move [id] nx ⟨none,.slice (some ⟨b,o+a.toNat*ie.size,none⟩) ((l.take c.toNat).drop a.toNat).length (cap - a.toNat),[],[b]⟩) (w:=w) (id:=nx) (hd:=⟨none,.slice (some ⟨b,o+a.toNat*ie.size,none⟩) ((l.take c.toNat).drop a.toNat).length (cap - a.toNat),[],[b]⟩) (by simp[Own.move]) rfl,mh hp hn [id] hK _ _ (λb' hb'=>g6) (λ_ _ _=>rfl) (aom _) rfl rfl rfl λee g=>.inr ⟨b,o+a.toNat*ie.size,cap - a.toNat,cs,ty,rfl,rfl,m3,?_,g5,g5,λi x hx j s hj=>?_⟩⟩;rw[<-hes,hsz];have:cap*aa k=a.toNat*aa k+(cap - a.toNat)*aa k:=by rw[<-aqP];grind
     omega;have⟨e1,e2⟩:=An hx;have⟨u,n1,n2⟩:=m7 _ x e1 j s hj;refine⟨u,?_,n2.mono g⟩;grind
     grind
   |_=>rw[ho]at O;exact absurd O.symm hne
 |_=>simp only[pc]at O;exact absurd O.symm hne
theorem WK(ht:ku P t=some ti)(hte:ku P ti.elem=some te){s sm:SV}{vm:Value}(hr:Rel F own w s v)(hm:Rel F own w sm vm){X W:Option Value}
  (h1':lo=none->X=none) (h2:∀ s,hi=some s->∃ u,W=some u/\Rel F own w s u)  (E:F7 ti lo hi sm s=r) (hne:r≠ .bad):
  ∃ c s',(r=.val s'/\c\/r=.chk c s')/\(c->∃ u,(Instr.sliceAt t v X W (some vm)).run P w=.ok u w/\Rel F own w s' u):=by
 obtain⟨i,d,z,hi',hd,hz,hq,rfl⟩:=ce ht;obtain⟨ie,de,ze,hie,hde,hze,hqe,hte'⟩:=ce hte;have slice:(eK P t i d).isSlice=true->∃ e,d=.slice e/\P.info? e=some ie:=λhs=>by
  cases d <;>simp[eK]at hs;grind [eK]
 unfold F7 at E;split at E
 ·rename_i k l;unfold acA at E;split at E
  ·cases hb:(eK P t i d).isSlice with
   |false=>grind
   |true=>
    obtain⟨e,rfl,Y⟩:=slice hb;obtain⟨u,rfl,e3⟩:=h2 _ rfl;obtain rfl:=c8 hm;obtain rfl:=c8 e3;refine⟨_,_,.inr E.symm,λ⟨ha,hb⟩ =>?_⟩;have O:∃ a cap,v=.slice a l.length cap/\l.length<=cap/\Rel F own w (.rs k l) (.slice a l.length l.length):=by
     cases hr with
     |rs c q0 q0' q1 q2=>exact⟨_,_,rfl,q0,.rs c (aom _) q0' q1 q2⟩|rs0=>exact⟨_,_,rfl,aoV _,.rs0⟩
    obtain⟨a,cap,rfl,hcl,V⟩:=O;have hbd:(Instr.sliceBounds true l.length cap none (some (.int .i64 l.length)) (some (.int .i64 l.length))).run P w=.ok (0,l.length,l.length) w:=by
     simp_all [Instr.sliceBounds,oA]
    refine⟨.slice a l.length l.length,?_,.rc V⟩;simp_all [Instr.sliceAt,Instr.slice,run_underlying,eb,Addr.add]
  grind
 unfold acz at E;split at E
 cases hb:(eK P t i d).isSlice with
 |false=>grind
 |true=>
  obtain⟨e,rfl,Y⟩:=slice hb;obtain⟨u,rfl,e3⟩:=h2 _ rfl;obtain rfl:=c8 hr;obtain rfl:=c8 hm;obtain rfl:=c8 e3;refine⟨True,_,.inl ⟨E.symm,trivial⟩,λ_=>⟨.slice none 0 0,?_,.v _⟩⟩;have hbd:(Instr.sliceBounds true 0 0 none (some (.int .i64 0)) (some (.int .i64 0))).run P w=.ok (0,0,0) w:=by
   rfl
  simp_all [Instr.sliceAt,Instr.slice,run_underlying,eb]
 grind
theorem adY(hp:Hp F own w h){nx:Nat}(hn:asQ own h nx)(ht:ku P t=some ti)(hte:ku P ti.elem=some te)(hsl:ti.isSlice=true){sl sc:SV}{vl vc:Value}(hrl:Rel F own w sl vl)(hrc:Rel F own w sc vc)(V:mkS nx te sl sc=r)(hne:r≠ .bad):
  Eg F own w h ((Instr.makeSlice t vl vc).run P w) r:=by
 obtain⟨i,d,z,hi,hd,hz,hq,rfl⟩:=ce ht;have⟨ie,de,ze,hie,hde,hze,hqe,hte'⟩:=ce hte;cases d <;>simp[eK]at hsl;rename_i e;unfold mkS at V;split at V
 rename_i n c;have el:=c8 hrl;have ec:=c8 hrc;subst el;subst ec;unfold mkT at V;split at V
 rename_i k E;subst V;have O:Aj P e ie=some k:=by rw[hte']at E;exact E
 have⟨t1,t2,t3,t4⟩:=BH (F:=F) (own:=own) (w:=w) O;have heb:te.bytes=ie.bytes:=by rw[hte'];rfl
 refine⟨_,_,_,_,rfl,λ⟨hc1,W,hc3⟩ =>?_⟩;subst hc1;have hnb:n<=n*(ie.bytes:Int):=by
  have:n*1<=n*(ie.bytes:Int):=ap5 g5 W;omega
 have hnm:n<=(aI:Int):=by grind [dT,aI]
 refine⟨hnm,?_⟩;have X:=run_make (P:=P) w t e ie ze hd hie hze .i64 .i64 n n W (ao7 _) (by grind [dT]) (by grind [aI]);have Y:=(t4 ze hze).1;have hzs:ze.cells.size=aa k:=by rw[Y.1,cm]
 refine⟨_,_,_,X,Rel.os (F:=F) (id:=nx) (hd:=⟨none,.slice (some ⟨w.heap.size,0,none⟩) n.toNat n.toNat,[],[w.heap.size]⟩) (Own.ar_ _ _ _) rfl,wb hp hn (w1:=w) ⟨rfl,rfl,rfl,rfl⟩ _ _ _ rfl λee g=>.inr ⟨w.heap.size,0,n.toNat,_,e,by simp,rfl,lW _ _,?_,by simp,by simp;omega,λq x hx j s hj=>?_⟩⟩;simp_all [size_madeCells];have hxd:x=fg k:=by
  grind
 subst hxd;have hjl:j<aa k:=by grind [cm]
 have hql:q<n.toNat:=g6
 have hlt:q*aa k+j<n.toNat*aa k:=by
  have:(q+1)*aa k<=n.toNat*aa k:=aoz _ hql;grind
 refine⟨ze.cells.getD j undef,?_,(Y.2 j s hj).mono g⟩;simp_all [aqV,madeCells];grind
 grind
theorem aaI(hp:Hp F own w h){ty:TypeId}(ht:ku P t=some ti){l:List SV}{vs:Array Value}(hl:ar7 F own w l vs)(E:vM ti h l=r)(X:r≠ .bad):
  ∃ (n:Nat),((∃ c,r=.asm c (.i n)/\c)\/r=.val (.i n))/\(Builtin.len_ #[t] ty vs).run P w=.ok (.int .i64 n) w:=by
 obtain⟨i,d,z,hi,hd,hz,hq,rfl⟩:=ce ht;have hsl:(eK P t i d).isSlice=true->∀ (a0:Option Addr) (n cap:Nat),(Builtin.len_ #[t] ty #[.slice a0 n cap]).run P w=.ok (.int .i64 n) w:=by
  intro hs a0 n cap;cases d <;>simp[eK]at hs;simp[Builtin.len_,run_underlying hd,goInt]
 have one:∀ s,l=[s]->∃ v,vs= #[v]/\Rel F own w s v:=by
  rintro s rfl;obtain⟨⟨a⟩⟩:=vs;exact absurd hl.1 (by simp);rename_i x xs;cases xs with
  |nil=>exact⟨x,rfl,by simpa using hl.2 0 _ rfl⟩
  |cons _ _=>exact absurd hl.1 (by simp)
 unfold vM at E;split at E
 obtain⟨v,rfl,O⟩:=one _ rfl;cases V:(eK P t i d).isSlice with
 |false=>grind
 |true=>
  cases O <;>grind
 cases V:(eK P t i d).isSlice with
 |false=>grind
 |true=>
  grind [c8]
 obtain⟨v,rfl,O⟩:=one _ rfl;cases V:(eK P t i d).isSlice with
 |false=>grind
 |true=>
  cases O <;>grind
 obtain⟨v,rfl,O⟩:=one _ rfl;cases V:(eK P t i d).isSlice with
 |false=>grind
 |true=>
  cases O with
  |rc O=>
   cases O <;>grind
 rename_i id;obtain⟨v,rfl,O⟩:=one _ rfl;cases V:(eK P t i d).isSlice with
 |false=>
  rw[V]at E;obtain⟨hdd,h1,rfl,_⟩:=jz O;cases W:ap h id with
  |mp kk vk m asE=>
    rw[W]at E;simp[adJ]at E;cases d with
    |map a b0=>
     cases hk:(eK P t i (.map a b0)).mkt.isSome&&noE asE with
     |false=>grind
     |true=>
      rw[hk]at E;subst E;rw[aoj]at hk;have⟨hd',e0,b,es,clk,m1,m2,Y,m4,_⟩:=hp.at W rfl;rw[lJ hk.2]at m4;have hg:(getObj b).run P w=.ok (.map es clk) w:=by simp[getObj,Sem.run,Y]
      have hn:es.size=m.length:=m4.1;refine⟨m.length,.inr rfl,?_⟩;simp_all [Builtin.len_,run_underlying,goInt]
    |_=>exact absurd E.symm X
  |_=>rw[W]at E;exact absurd E.symm X
 |true=>
  rw[V]at E;obtain⟨hdd,h1,rfl,_⟩:=jz O;cases W:ap h id with
  |row k m=>
   simp[aao]at E;have⟨hd',e0,e1⟩:=hp.at W rfl;rcases e1 with⟨a0,m1,rfl,Y⟩ | ⟨b,o,cap,cs,ty,m1,m2,Y,m4,m5,m6,m7⟩ <;>grind
  |ar2 k m=>
   simp[aao]at E;have⟨hd',e0,e1⟩:=hp.at W rfl;rcases e1 with⟨m1,rfl,Y⟩ | ⟨b,o,cap,cs,ty,bs,m1,m2,Y,m4,m5,m6,m7,m8,m9⟩ <;>grind
  |_=>rw[W]at E;exact absurd E.symm X
 rename_i id q;obtain⟨v,rfl,O⟩:=one _ rfl;cases V:(eK P t i d).isSlice with
 |false=>grind
 |true=>
  rw[V]at E;cases W:ap h id with
  |ar2 k m=>
   simp[adI]at E;have⟨hd',e0,e1⟩:=hp.at W rfl;cases O with
   |gr g1 g2 g3=>
    rw[g1]at e0;cases e0;rcases e1 with⟨_,_,m1,_⟩ | ⟨b,o,cap,cs,ty,bs,m1,m2,Y,m4,m5,m6,m7,m8,m9⟩;grind
    have⟨b1,k1,k2,k3,k4⟩:=m9.get g2;rcases k3 with⟨a0,n1,n2,_⟩ | ⟨b2,o2,cap2,cs2,ty2,n1,n2,n3,n4,n5,n6,n7⟩ <;>grind
  |_=>rw[W]at E;exact absurd E.symm X
 rename_i s m;obtain⟨v,rfl,O⟩:=one _ rfl;cases V:(eK P t i d).isSlice&&Nat.ble 1 s with
 |false=>grind
 |true=>
  rw[V]at E;subst E;simp only[aoj]at V;have hs1:=nbl V.2;cases O with
  |ls c qz q0 q1 q2=>
   rw[se,<-qz,Nat.mul_div_cancel _ hs1];exact⟨_,.inr rfl,hsl V.1 _ _ _⟩
 grind
end
section
variable {κ υ:Type}[DecidableEq κ]
def pN:List (κ×υ)->κ->Option Nat
 | [],_=>none|(a,_)::r,x=>if x=a then some 0 else(pN r x).map (· +1)
theorem wg {x:κ}:∀ {l:List (κ×υ)},pN l x=none->jy l x=none/\(∀ y,u5 l x y=l++[(x,y)])/\QG l x=l.length
 | [],_=>⟨rfl,λ_=>rfl,rfl⟩
 |(a,b)::r,h=>by
  simp[pN]at h;split at h
  cases h;have h':pN r x=none:=by simp_all
  have⟨h1,h2,h3⟩:=wg h';grind [jy,u5,QG]
theorem tV {x:κ}:∀ {l:List (κ×υ)} {i:Nat},pN l x=some i->∃ y,l[i]? =some (x,y)/\jy l x=some y/\(∀ z,u5 l x z=l.set i (x,z))/\QG l x=i
 | [],i,h=>by simp[pN]at h
 |(a,b)::r,i,h=>by
  simp[pN]at h;split at h
  simp at h;subst h;simp_all [jy,u5,QG];cases E:pN r x with
  |none=>grind
  |some j=>
   have⟨y,h1,h2,h3,h4⟩:=tV E;grind [jy,u5,QG]
end
section
variable {P:Program}{F:Nat->Prop}{own:Own}{w:World}
theorem LQ (a b:ByteArray):(a==b)=true↔a=b:=by
 have⟨x⟩:=a;have⟨y⟩:=b;show(x==y)=true↔_;simp
theorem w6 (k:Tag)(x:k.T):vZ (ez k) (cellsOf k x)=true:=by
 cases k <;>first|rfl|(cases x <;>rfl)
theorem Gn:∀ {a b:List Nat},FV a b=true->a=b
 | [],[],_=>rfl
 |x::a,y::b,h=>by simp only[FV,aoj]at h;rw[aok h.1,Gn h.2]
 | [],_::_,h=>by simp[FV]at h
 |_::_,[],h=>by simp[FV]at h
theorem Od:∀ {ks:List Kd} {l m:List SV},vZ ks l=true->vZ ks m=true->(∀ c∈ks.map kq,c≠0)->∃ b,eqL (ks.map kq) l m=some b/\(b=true↔l=m)
 | [],l,m,h1,h2,_=>by
  have e1:=we h1;have e2:=we h2;subst e1;subst e2;exact⟨true,rfl,by simp⟩
 |k::ks,l,m,h1,h2,hc=>by
  obtain⟨x,r,rfl,W,f2⟩:=ra h1;obtain⟨y,s,rfl,V,g2⟩:=ra h2;have⟨b,e1,e2⟩:=Od f2 g2 (λc O=>hc c (by simp[O]));have X:=hc (kq k) (by simp);have:∃ Y,eqV (kq k) x y=some Y/\(Y=true↔x=y):=by
   cases k with
   |s=>
    have E:=J8 W;have hy:=J8 V;rw[<-E,<-hy];refine⟨toS x==toS y,by rfl,by simp[LQ]⟩
   |b=>
    have E:=J9 W;have hy:=J9 V;rw[<-E,<-hy];refine⟨toB x==toB y,by rfl,by simp⟩
   |n k=>
    have E:=J_ W;have hy:=J_ V;rw[<-E,<-hy];refine⟨toI x==toI y,by simp[eqV,kq],by simp⟩
   |r k=>simp[kq]at X|m a b=>simp[kq]at X|f=>simp[kq]at X
  have⟨Y,e3,e4⟩:=this;simp_all [eqL,Bt]
variable {t:TypeId}{k:Tag}
theorem C5(h:NO P t=some k):∃ i d,P.info? t=some i/\Aj P t i=some k/\P.underlying t=some d/\lI P t=pP k/\
  ((lI P t=true/\(ez k).map kq=pb P t d/\pb P t d≠[])\/(lI P t=false/\(ez k).map kq=[cN (some d)]/\cN (some d)≠0)):=by
 unfold NO at h;cases O:NN P t with
 |none=>grind
 |some k'=>
  rw[O]at h;simp at h;cases E:QF P t k' with
  |false=>grind
  |true=>
   rw[E]at h;simp[cond_true,aoo]at h;subst h;have⟨i,hi,as7⟩:=C4 O;unfold QF at E;split at E
   rename_i d hd;refine⟨i,d,hi,as7,hd,(BH (F:=λ_=>False) (own:=dP) (w:=default) as7).2.2.1,?_⟩;cases V:lI P t with
   |true=>
    rw[V]at E;simp[cond_true,aoj]at E;have e:=Gn E.1;refine .inl ⟨rfl,e,λhn=>?_⟩;simp_all
   |false=>
    rw[V]at E;simp only[cond_false,aoj]at E;exact .inr ⟨rfl,Gn E.1,by have:=nbl E.2;omega⟩
   cases E
variable {d:TypeDesc}
theorem Gp(c:Nat)(h:c∈pb P t d):c≠0:=by
 unfold pb at h;split at h
 rename_i fs;cases E:!P.stoodInHeld t&& !P.eqGuardType P.depth t&&eqFields P 0 fs.toList with
 |false=>grind
 |true=>
  have:∀ (l:List Field) (n:Nat),eqFields P n l=true->c∈l.map (λf=>cN (P.underlying f.type))->c≠0:=by
   intro l;induction l with
   |nil=>grind
   |cons f l V=>
    intro n O hm;simp only[eqFields,aoj]at O;simp[aoO,aoD]at hm;rcases hm with rfl|hm;have:=nbl O.1.2;omega;grind
  grind
 rename_i n e;cases E:!P.eqGuardType P.depth t&&Nat.blt 0 (cN (P.underlying e))&&Nat.beq (pm P e) 1 with
 |false=>grind
 |true=>
  rw[E]at h;simp only[aoj]at E;have:=List.eq_of_mem_replicate h;have h2:=nbl E.1.2;omega
 cases h
theorem Gq {d:Nat}{e:TypeId}(hc:cN (P.underlying e)≠0):∀ (n m:Nat) (E O:List SV) (xs V:Array Value) (b:Bool),eqL (List.replicate n (cN (P.underlying e))) E O=some b->m+E.length<=xs.size->m+O.length<=V.size->
  (∀ (j:Nat) (s:SV),E[j]? =some s->Rel F own w s (xs.getD (m+j) undef))->(∀ (j:Nat) (s:SV),O[j]? =some s->Rel F own w s (V.getD (m+j) undef))->
  (Op.eqItems (d+1) e 1 xs V (List.range' m n)).run P w=.ok b w
 |0,m,E,O,xs,V,b,h,_,_,_,_=>by
  cases E <;>cases O <;>simp[eqL]at h;simp_all [Op.eqItems]
 |n+1,m,E,O,xs,V,b,h,h1,h2,h3,h4=>by
  cases E with
  |nil=>simp[eqL]at h
  |cons x E=>
   cases O with
   |nil=>simp[eqL]at h
   |cons y O=>
    simp[List.replicate_succ,eqL]at h;cases Y:eqV (cN (P.underlying e)) x y with
    |none=>grind [Bt]
    |some b1=>
     cases X:eqL (List.replicate n (cN (P.underlying e))) E O with
     |none=>grind [Bt]
     |some b2=>
      rw[Y,X]at h;simp[Bt,aoo]at h;subst h;simp[aon]at h1 h2;have e1:=w5 (P:=P) (w:=w) hc (xs:=xs) (n:=m) g5;have e2:=w5 (P:=P) (w:=w) hc (xs:=V) (n:=m) g5;have W:=Q3 (P:=P) (h3 0 x rfl) (h4 0 y rfl) Y d;simp only[apE]at W;rw[apA];simp only[Op.eqItems,aqu,aoT,e1,e2,aoW,W];cases b1 with
      |false=>simp
      |true=>
       have ih:=Gq (d:=d) hc n (m+1) E O xs V b2 X g5 g5 (λj s hj=>by have:=h3 (j+1) s g6;grind) (λj s hj=>by have:=h4 (j+1) s g6;grind);grind
theorem Oe(hd:P.underlying t=some d){O ly:List SV}{xs E:Array Value}(Y:ar7 F own w O xs)(hy:ar7 F own w ly E){b:Bool}
  (hc:pb P t d≠[]) (h:eqL (pb P t d) O ly=some b):(Op.equal t (.agg xs) (.agg E)).run P w=.ok b w/\P.eqGuardType P.depth t=false:=by
 cases d with
 |struct fs=>exact Oa hd Y hy hc h
 |array n e=>
  simp[pb]at hc h;cases V:!P.eqGuardType P.depth t&&Nat.blt 0 (cN (P.underlying e))&&Nat.beq (pm P e) 1 with
  |false=>grind
  |true=>
   rw[V]at h;simp only[aoj,aox]at V;have⟨⟨q1,q2⟩,q3⟩:=V;refine⟨?_,q1⟩;have h1:=aok q3;have hi:∃ i,P.info? e=some i/\i.size=1:=by
    grind [pm]
   have⟨i,hi,his⟩:=hi;unfold Op.equal Op.maxDepth;rw[run_equalIn_array (w:=w) 9999 xs E hd hi];have X:P.cellsOf e=1:=by grind [Program.cellsOf]
   rw[X,List.range_eq_range'];exact Gq (d:=9998) (by have:=nbl q2;omega) n 0 O ly xs E b h (by rw[Y.1];omega) (by rw[hy.1];omega) (λj s W=>by simpa using Y.2 j s W) (λj s W=>by simpa using hy.2 j s W)
 |_=>exact absurd rfl hc
theorem zw{x:k.T}(h:pP k=true):svT k x=.agg (cellsOf k x):=by grind [svT]
theorem vr {l:List SV}{v:Value}(h:Rel F own w (.agg l) v):∃ vs,v=.agg vs/\ar7 F own w l vs:=by
 cases h with|agg E h1=>exact⟨_,rfl,E,h1⟩
theorem BI{x:k.T}(h:pP k=false){s:SV}(E:cellsOf k x=[s]):svT k x=s:=by unfold svT;rw[h,E];rfl
theorem Q8{k:Kd}{O X:SV}(hc:kq k=cN (some d))(h0:kq k≠0)(fx:fit k O=true)(fy:fit k X=true){V E:Value}(W:Rel F own w O V)(hy:Rel F own w X E):
  ∃ b,Instr.sameNow d V E=some b/\(b=true↔O=X)/\(b=true->V=E):=by
 cases k with
 |s=>
  have Y:=J8 fx;have e2:=J8 fy;rw[<-Y]at W |-;rw[<-e2]at hy |-;have:=c8 W;have:=c8 hy;subst V;subst E;cases d <;>simp[kq,cN]at hc;exact⟨toS O==toS X,rfl,by simp[LQ],by simp[LQ]⟩
 |b=>
  have Y:=J9 fx;have e2:=J9 fy;rw[<-Y]at W |-;rw[<-e2]at hy |-;have:=c8 W;have:=c8 hy;subst V;subst E;cases d <;>simp[kq,cN]at hc;exact⟨toB O==toB X,rfl,by simp,by simp⟩
 |n k=>
  have Y:=J_ fx;have e2:=J_ fy;rw[<-Y]at W |-;rw[<-e2]at hy |-;have:=c8 W;have:=c8 hy;subst V;subst E;cases d <;>simp[kq,cN]at hc;exact⟨toI O==toI X,by simp[Instr.sameNow],by simp,by simp⟩
 |r k=>simp[kq]at h0|m a b=>simp[kq]at h0|f=>simp[kq]at h0
theorem Ao {kk O:Tag}{E:TypeId}{V:Value}{x:kk.T}:∀ (es:List MapEntry) (l:List (kk.T×O.T)) (n:Nat),es.length=l.length->(∀ (i:Nat) (p:kk.T×O.T),l[i]? =some p->∃ e:MapEntry,es[i]? =some e/\∃ b,(Op.equal E V e.key).run P w=.ok b w/\(b=true↔x=p.1))->
  (Instr.findAsking E V es n).run P w=.ok ((pN l x).bind λi=>(es[i]?).map λe=>(n+i,e.val)) w
 | [],[],n,_,_=>by rfl
 | [],_::_,_,h,_=>by simp at h
 |_::_,[],_,h,_=>by simp at h
 |e::es,(a,c)::l,n,Y,h=>by
  have⟨e',e1,b,e2,e3⟩:=h 0 _ rfl;simp at e1;subst e1;have W:=Ao es l (n+1) g6 (λi p X=>by
   have⟨e',q1,q2⟩:=h (i+1) p g6;exact⟨e',g6,q2⟩)
  simp[Instr.findAsking,aoT,e2];cases b with
  |true=>
   simp_all [pN]
  |false=>
   simp[aot,if_false,pN];rw[W];cases pN l x <;>grind
theorem Gr {kk E:Tag}{d:TypeDesc}{O:Value}{x:kk.T}:∀ (es:List MapEntry) (l:List (kk.T×E.T)) (n:Nat),es.length=l.length->(∀ (i:Nat) (p:kk.T×E.T),l[i]? =some p->∃ e:MapEntry,es[i]? =some e/\∃ b,Instr.sameNow d O e.key=some b/\(b=true↔x=p.1))->
  Instr.findNow d O es n=some ((pN l x).bind λi=>(es[i]?).map λe=>(n+i,e.val))
 | [],[],n,_,_=>by rfl
 | [],_::_,_,h,_=>by simp at h
 |_::_,[],_,h,_=>by simp at h
 |e::es,(a,c)::l,n,X,h=>by
  have⟨e',e1,b,e2,e3⟩:=h 0 _ rfl;have V:=Gr es l (n+1) g6 (λi p W=>by
   have⟨e',q1,q2⟩:=h (i+1) p g6;exact⟨e',g6,q2⟩)
  simp[Instr.findNow];cases b with
  |true=>
   grind [pN]
  |false=>
   simp[pN];rw[V];cases pN l x <;>grind
theorem C6{c:Nat}(h:(ez k).map kq=[c])(x:k.T):∃ κ s,ez k=[κ]/\kq κ=c/\cellsOf k x=[s]/\fit κ s=true:=by
 have E:=w6 k x;cases O:ez k with
 |nil=>grind
 |cons κ r=>
  rw[O]at h E;simp[aoO,apS,List.map_eq_nil_iff]at h;obtain⟨h1,rfl⟩:=h;have⟨s,r,hs,f1,f2⟩:=ra E;have:=we f2;grind
theorem w7 {kk V:Tag}{Y:TypeId}(hk:NO P Y=some kk){vx:Value}{x:kk.T}(W:Rel F own w (svT kk x) vx){l:List (kk.T×V.T)}{es:Array MapEntry}(hl:es.size=l.length)(O:∀ (i:Nat) (p:kk.T×V.T),l[i]? =some p->∃ e,es[i]? =some e/\Rel F own w (svT kk p.1) e.key):
  (Instr.findKey Y vx es.toList).run P w=.ok ((pN l x).bind λi=>(es[i]?).map λe=>(i,e.val)) w:=by
 have⟨i,d,hi,as7,hd,ha,hcase⟩:=C5 hk;unfold Instr.findKey;simp[aoT,run_underlying hd,aoW];rcases hcase with⟨h1,h2,h3⟩ | ⟨h1,h2,h3⟩;rw[h1]at ha;rw[zw ha.symm]at W;obtain⟨xs,rfl,hxs⟩:=vr W;have E:∀ (i:Nat) (p:kk.T×V.T),l[i]? =some p->∃ e:MapEntry,es.toList[i]? =some e/\∃ b,(Op.equal Y (.agg xs) e.key).run P w=.ok b w/\(b=true↔x=p.1):=λi p X=>by
  have⟨e,e1,e2⟩:=O i p X;rw[zw ha.symm]at e2;have⟨ys,hy1,hy2⟩:=vr e2;refine⟨e,g6,?_⟩;have⟨b,q1,q2⟩:=Od (w6 kk x) (w6 kk p.1) (λc hc=>by rw[h2]at hc;exact Gp c hc);rw[h2]at q1;rw[hy1];exact⟨b,(Oe hd hxs hy2 h3 q1).1,by rw[q2];exact⟨λh=>Ed h,λh=>by rw[h]⟩⟩
 have hfa:=Ao (P:=P) (w:=w) es.toList l 0 g5 E;simp[aqA]at hfa;have hnow:Instr.findNow d (.agg xs) es.toList 0=none\/es.toList=[]:=by
  cases hel:es.toList with
  |nil=>grind
  |cons e r=>
   simp[Instr.findNow];have:Instr.sameNow d (.agg xs) e.key=none:=by cases d <;>rfl
   rw[this]
 grind [Instr.findNow,Instr.findAsking]
 rw[h1]at ha;have⟨κ,s,k1,k2,k3,k4⟩:=C6 h2 x;rw[BI ha.symm k3]at W;have E:∀ (i:Nat) (p:kk.T×V.T),l[i]? =some p->∃ e:MapEntry,es.toList[i]? =some e/\∃ b,Instr.sameNow d vx e.key=some b/\(b=true↔x=p.1):=λi p X=>by
  have⟨e,e1,e2⟩:=O i p X;have⟨κ',s',m1,m2,m3,m4⟩:=C6 h2 p.1;rw[k1]at m1;cases m1;rw[BI ha.symm m3]at e2;have⟨b,q1,q2,_⟩:=Q8 k2 g5 k4 m4 W e2;exact⟨e,g6,b,q1,by exact⟨λh=>Ed g6,λh=>g6⟩⟩
 have hfn:=Gr (d:=d) es.toList l 0 g5 E;simp_all
theorem yD {em:Bool}{xs:Array Value}:∀ (fs:List Field) (n:Nat),eqFields P n fs=true->n+fs.length<=xs.size->
  (forIn fs PUnit.unit (λf (_:PUnit) =>do
   if f.name≠ "_" then Instr.checkKey em 9999 f.type (<-part f.type xs f.offset)
   pure (ForInStep.yield PUnit.unit)):Sem PUnit).run P w=.ok PUnit.unit w
 | [],n,_,_=>by simp
 |f::fs,n,V,E=>by
  simp only[eqFields,aoj]at V;have⟨⟨⟨q1,q2⟩,q3⟩,q4⟩:=V;have hc:cN (P.underlying f.type)≠0:=by have:=nbl q3;omega
  simp[aon]at E;have X:=w5 (P:=P) (w:=w) hc (xs:=xs) (n:=n) g5;have Y:(Instr.checkKey em 9999 f.type (xs.getD n undef)).run P w=.ok () w:=by
   unfold Instr.checkKey;cases O:P.underlying f.type with
   |none=>grind [cN]
   |some d=>
    rw[O]at hc;simp[aoT,run_underlying O];cases d <;>simp[cN]at hc <;>simp
  have W:=yD (em:=em) (xs:=xs) fs (n+1) q4 g5;simp_all
theorem Ap {em:Bool}{e:TypeId}(hc:cN (P.underlying e)≠0)(O:(sizeOf e).run P w=.ok 1 w){xs:Array Value}:∀ (n m:Nat),m+n<=xs.size->
  (forIn (List.range' m n) PUnit.unit (λi (_:PUnit) =>do
   Instr.checkKey em 9999 e (<-part e xs (i*(<-sizeOf e)))
   pure (ForInStep.yield PUnit.unit)):Sem PUnit).run P w=.ok PUnit.unit w
 |0,m,_=>by simp
 |n+1,m,hle=>by
  have W:=w5 (P:=P) (w:=w) hc (xs:=xs) (n:=m) g5;have X:(Instr.checkKey em 9999 e (xs.getD m undef)).run P w=.ok () w:=by
   unfold Instr.checkKey;cases E:P.underlying e with
   |none=>grind [cN]
   |some d=>
    rw[E]at hc;simp[aoT,run_underlying E];cases d <;>simp[cN]at hc <;>simp
  have V:=Ap (em:=em) hc O (xs:=xs) n (m+1) g5;simp_all [apA]
theorem vt {kk:Tag}{V:TypeId}(hk:NO P V=some kk){Y:Value}{x:kk.T}(hx:Rel F own w (svT kk x) Y)(em:Bool):(Instr.checkKey em 10000 V Y).run P w=.ok () w:=by
 have⟨i,d,hi,as7,hd,ha,hcase⟩:=C5 hk;rcases hcase with⟨h1,h2,W⟩ | ⟨h1,h2,W⟩;rw[h1]at ha;rw[zw ha.symm]at hx;obtain⟨xs,rfl,X⟩:=vr hx;have E:(pb P V d).length=xs.size:=by
  rw[X.1,<-h2,apd];have:(ez kk).length=(cellsOf kk x).length:=by cases kk <;>rfl
  rw[this,cm]
 unfold Instr.checkKey;simp[aoT,run_underlying hd];cases d with
 |struct fs=>
  simp[pb]at W E;cases O:!P.stoodInHeld V&& !P.eqGuardType P.depth V&&eqFields P 0 fs.toList with
  |false=>grind
  |true=>
   simp[aoj]at O;have:=yD (P:=P) (w:=w) (em:=em) (xs:=xs) fs.toList 0 O.2 g6;simp_all
 |array n e=>
  simp[pb]at W E;cases O:!P.eqGuardType P.depth V&&Nat.blt 0 (cN (P.underlying e))&&Nat.beq (pm P e) 1 with
  |false=>grind
  |true=>
   simp only[aoj]at O;have hs1:=aok O.2;have hs:(sizeOf e).run P w=.ok 1 w:=by
    grind [pm,eb]
   have:=Ap (P:=P) (w:=w) (em:=em) (xs:=xs) (e:=e) (by have:=nbl O.1.2;omega) hs n 0 g6;simp_all
 |_=>exact absurd rfl W
 unfold Instr.checkKey;simp[aoT,run_underlying hd];cases d <;>simp[cN]at W <;>simp
end
def BJ (w:World)(b:Nat)(o:Obj):World:= { w with heap:=w.heap.setIfInBounds b o}
def Q9 {w:World}{b k:Nat}{o:Obj}(h:k≠b):(BJ w b o).heap[k]? =w.heap[k]?:=by
 grind [BJ]
section
variable {P:Program}{F:Nat->Prop}{own:Own}{w:World}
theorem Q_ {z:Value}(h:FT z=true):z=.agg z.cells:=by
 cases z <;>first|rfl|simp[FT]at h
variable {t:TypeId}{k:Tag}
def Of{i:TypeInfo}(h:Aj P t i=some k){z:Value}(O:i.zero=some z):Rel F own w (svT k (fg k)) z:=by
 have⟨t1,t2,t3,t4⟩:=BH (F:=F) (own:=own) (w:=w) h;have⟨q1,q2⟩:=t4 z O;cases E:pP k with
 |true=>
  rw[zw E,Q_ (q2.trans E)];exact .agg q1.1 q1.2
 |false=>
  have hc:z.cells= #[z]:=by cases z <;>first|rfl|grind [FT]
  rw[hc]at q1;have W:(cellsOf k (fg k)).length=1:=by rw[<-q1.1];rfl
  have⟨s,hs⟩:∃ s,cellsOf k (fg k)=[s]:=by
   cases V:cellsOf k (fg k) <;>grind
  rw[BI E hs];have:=q1.2 0 s (by rw[hs];rfl);simp_all
theorem WL {s:SV}{l:List SV}(h:CU s=some l):l=[s]:=by
 unfold CU at h;split at h
 cases h;cases h
 ·rename_i h1 h2;cases s <;>first|(simp[qQ]at h;exact h.symm) |(simp[qQ]at h;done) |(exact(h1 _ rfl).elim) |skip
  rename_i x;cases x <;>first|(simp[qQ]at h;exact h.symm) |(simp[qQ]at h;done) |grind
variable {v:Value}
theorem tB{s:SV}(hr:Rel F own w s v){x:k.T}(h:unT k s=some x):Rel F own w (svT k x) v:=by
 unfold unT at h;cases O:pP k with
 |true=>
  rw[O]at h;rw[zw O];cases hr with
  |agg X h1=>
   have:=Gk h ⟨X,h1⟩;exact .agg this.1 this.2
  |v y=>
   cases v with
   |agg cs=>
    have:=Gk h (vs:=cs) (zu (F:=F) (own:=own) (w:=w) (.agg cs));exact .agg this.1 this.2
   |_=>simp[I4,NQ]at h
  |_=>simp[I4,NQ]at h
 |false=>
  rw[O]at h;cases E:CU s with
  |none=>rw[E]at h;cases h
  |some l=>
   rw[E]at h;have:=WL E;have hc:=nX h;have V:=Q2 h;have Y:(ez k).length=1:=by
    have:(ez k).length=aa k:=by cases k <;>rfl
    grind
   cases W:ez k with
   |nil=>grind
   |cons κ r=>
    grind [BI,p_,AE]
theorem o4 {a:Tag}{o:Option Tag}(h:mP a o=true):o=some a:=by
 cases o with
 |none=>cases h|some b=>rw[wc (k:=a) (k':=b) h]
variable {ti:TI}{kk O:Tag}
theorem AL(X:ku P t=some ti)(W:ti.mkt=some kk)(V:ti.mvt=some O):∃ E e,P.underlying t=some (.map E e)/\NO P E=some kk/\NN P e=some O:=by
 obtain⟨i,d,z,hi,hd,hz,Y,rfl⟩:=ce X;cases d <;>simp[eK]at W V;grind
variable {E:Tag}
theorem UK(l:List (kk.T×E.T))(p:Option (Nat×Option kk.T))(x:kk.T):(jy (fT kk E l p) x).getD (fg E)=(jy l x).getD (fg E):=by
 match p with
 |none=>rfl|some (_,none) =>rfl
 |some (_,some y) =>
  simp[fT];split
  rfl
  ·have:∀ (l:List (kk.T×E.T)),jy (l++[(y,fg E)]) x=match jy l x with|some v=>some v|none=>if x=y then some (fg E)else none:=by
    intro l;induction l with
    |nil=>simp[jy]|cons a l O=>simp[aoJ,jy];grind
   rw[this];cases jy l x <;>grind
variable {kt:TypeId}{x:kk.T}{es:Array MapEntry}
theorem BK{e:TypeId}(hd:P.underlying t=some (.map kt e))(hk:NO P kt=some kk)(hv:NN P e=some E){m Y:Value}(hx:Rel F own w (svT kk x) Y){L:List (kk.T×E.T)}
  (hm:(m=.map none/\es= #[])\/∃ b clock,m=.map (some b)/\w.heap[b]? =some (.map es clock)) (hl:es.size=L.length) (O:∀ (i:Nat) (p:kk.T×E.T),L[i]? =some p->∃ e,es[i]? =some e/\Rel F own w (svT kk p.1) e.key/\Rel F own w (svT E p.2) e.val) (ok:Bool):
  ∃ v,(Instr.lookup t m Y ok).run P w=.ok (if ok then .tuple #[v,.bool (jy L x).isSome]else v) w/\Rel F own w (svT E ((jy L x).getD (fg E))) v:=by
 have⟨i,hi,as7⟩:=C4 hv;have W:∃ z,i.zero=some z:=by
  have:=C3 as7;simp[FU]at this;grind
 have⟨z,W⟩:=W;have hck:=vt hk hx es.isEmpty;have hfk:=w7 hk hx hl (λi p hp=>by have⟨e,e1,e2,_⟩:=O i p hp;grind);have hzr:=Of (F:=F) (own:=own) (w:=w) as7 W;have hzv:(zeroValue e).run P w=.ok z w:=by simp[zeroValue,typeInfo,hi,W]
 have V:∃ v,((∃ j,((pN L x).bind λi=>(es[i]?).map λe=>(i,e.val))=some (j,v)/\(jy L x).isSome=true)\/(((pN L x).bind λi=>(es[i]?).map λe=>(i,e.val))=none/\v=z/\(jy L x).isSome=false))/\Rel F own w (svT E ((jy L x).getD (fg E))) v:=by
  cases X:pN L x with
  |none=>
   grind [wg]
  |some i=>
   have⟨y,h1,h2,_,_⟩:=tV X;have⟨e,e1,e2,e3⟩:=O i _ h1;grind
 have⟨v,h1,h2⟩:=V;refine⟨v,?_,h2⟩;rcases hm with⟨rfl,rfl⟩ | ⟨b,clock,rfl,hb⟩;simp_all [Instr.lookup,run_underlying];have hg:(getObj b).run P w=.ok (.map es clock) w:=by simp[getObj,Sem.run,hb]
 rcases h1 with⟨j,h1,h3⟩ | ⟨h1,rfl,h3⟩;simp_all [Instr.lookup,run_underlying];simp_all [Instr.lookup,run_underlying]
variable {r:OR}
theorem Gs{l:List (kk.T×E.T)}{ok:Bool}{o:Option kk.T}(O:J2 kk E l ok o=r)(V:r≠ .bad):∃ x,o=some x/\r=.val (bif ok then .tup [svT E (aC kk E l x),.b (yq kk E l x)]else svT E (aC kk E l x)):=by
 unfold J2 at O;grind
theorem BL{y:E.T}{b:Bool}(h:Rel F own w (svT E y) v)(ok:Bool):Rel F own w (bif ok then .tup [svT E y,.b b]else svT E y) (if ok then .tuple #[v,.bool b]else v):=by
 cases ok with
 |false=>exact h
 |true=>
  refine .tup rfl λj s O=>?_;cases j with
  |zero=>simp_all
  |succ j=>
   cases j with
   |zero=>simp at O;subst O;exact .v _|succ j=>simp at O
variable {h:List Ob}{sk:SV}{vx:Value}
theorem WN(V:Hp F own w h)(ht:ku P t=some ti){s:SV}(hr:Rel F own w s v)(W:Rel F own w sk vx){ok:Bool}(E:ve ti h ok sk s=r)(O:r≠ .bad):
  ∃ s',r=.val s'/\∃ u,(Instr.lookup t v vx ok).run P w=.ok u w/\Rel F own w s' u:=by
 unfold ve at E;split at E
 rename_i id;obtain⟨hdd,h1,rfl,h2⟩:=jz hr;cases ho:ap h id with
 |mp kk Y l X=>
  rw[ho]at E;simp[SX]at E;cases hc:mP kk ti.mkt&&mP Y ti.mvt&&(!ok||noE X)with
  |false=>grind
  |true=>
   rw[hc]at E;simp[aoj]at hc;obtain⟨x,hx,rfl⟩:=Gs E O;have⟨kt,e,q1,q2,q3⟩:=AL ht (o4 hc.1.1) (o4 hc.1.2);have⟨hd',e0,b,es,clk,m1,m2,m3,m4,_⟩:=V.at ho rfl;rw[h1]at e0;cases e0;have⟨u,k1,k2⟩:=BK (P:=P) q1 q2 q3 (tB W hx) (m:=hdd.v) (.inr ⟨b,_,m1,m3⟩) m4.1 (λi p V=>by have⟨e,e1,e2,e3⟩:=m4.2 i p V;grind) ok;rw[UK]at k2;refine⟨_,rfl,_,k1,?_⟩;have hsome:ok=true->(jy (fT kk Y l X) x).isSome=yq kk Y l x:=λhok=>by
    rw[lJ g6];rfl
   have:=BL (b:=yq kk Y l x) k2 ok;cases ok with
   |false=>exact this|true=>rw[hsome rfl];exact this
 |_=>rw[ho]at E;exact absurd E.symm O
 rename_i kk Y l;cases hc:mP kk ti.mkt&&mP Y ti.mvt with
 |false=>grind
 |true=>
  rw[hc]at E;simp[aoj]at hc;obtain⟨x,hx,rfl⟩:=Gs E O;have⟨kt,e,q1,q2,q3⟩:=AL ht (o4 hc.1) (o4 hc.2);cases hr with
  |rm ck cv es clock h0 h1 h2 h3 h4 h5=>
   rename_i b;have⟨u,k1,k2⟩:=BK (P:=P) q1 q2 q3 (tB W hx) (m:=.map (some b)) (.inr ⟨b,_,rfl,h1⟩) h2 (λi p V=>by have⟨n,e1⟩:=h3 i p V;grind) ok;exact⟨_,rfl,_,k1,BL k2 ok⟩
  |rm0=>
   have⟨u,k1,k2⟩:=BK (P:=P) q1 q2 q3 (tB W hx) (m:=.map none) (.inl ⟨rfl,rfl⟩) rfl (λi p V=>by simp at V) ok (L:=[]);exact⟨_,rfl,_,k1,BL k2 ok⟩
 have:=c8 hr;subst this;unfold Wq at E;split at E
 rename_i kk Y hk hv;obtain⟨x,hx,rfl⟩:=Gs E O;have⟨kt,e,q1,q2,q3⟩:=AL ht hk hv;have⟨u,k1,k2⟩:=BK (P:=P) q1 q2 q3 (tB W hx) (m:=.map none) (.inl ⟨rfl,rfl⟩) rfl (λi p V=>by simp at V) ok (L:=[]);exact⟨_,rfl,_,k1,BL k2 ok⟩;grind
 grind
theorem Aq{κ:Kd}{s:SV}{u:Value}(E:kq κ≠0)(O:fit κ s=true)(V:Rel F own w s v)(W:Rel F own w s u)(n:Nat):u=v/\Instr.sameBits n v u=true:=by
 cases κ with
 |s=>have e:=J8 O;grind [c8,Instr.sameBits,LQ]|b=>have e:=J9 O;grind [c8,Instr.sameBits]|n k=>have e:=J_ O;grind [c8,Instr.sameBits]|r k=>simp[kq]at E|m a b=>simp[kq]at E|f=>simp[kq]at E
theorem Og:∀ {ks:List Kd} {l:List SV} {j:Nat} {s:SV},vZ ks l=true->l[j]? =some s->∃ κ,κ∈ks/\fit κ s=true
 | [],l,j,s,h,E=>by grind [we]
 |k::ks,l,j,s,h,E=>by
  obtain⟨x,r,rfl,V,O⟩:=ra h;cases j with
  |zero=>grind|succ j=>have⟨κ,h1,h2⟩:=Og O E;grind
theorem S_(hk:NO P kt=some kk){u:Value}(hv:Rel F own w (svT kk x) v)(hu:Rel F own w (svT kk x) u):(Instr.keyThatStays v u).run P w=.ok u w:=by
 have⟨i,d,hi,as7,hd,ha,hcase⟩:=C5 hk;have:Instr.sameBits 10000 v u=true:=by
  rcases hcase with⟨h1,h2,h3⟩ | ⟨h1,h2,h3⟩;rw[h1]at ha;rw[zw ha.symm]at hv hu;obtain⟨xs,rfl,O⟩:=vr hv;obtain⟨W,rfl,V⟩:=vr hu;have X:xs.size=W.size:=O.1.trans V.1.symm;have key:∀ (j:Nat),j<xs.size->W.getD j undef=xs.getD j undef/\Instr.sameBits 9999 (xs.getD j undef) (W.getD j undef)=true:=λj Y=>by
   have E:j< (cellsOf kk x).length:=by rw[<-O.1];exact Y
   have⟨κ,q1,q2⟩:=Og (w6 kk x) (aov E);have hc:kq κ≠0:=by
    have:kq κ∈(ez kk).map kq:=apb.2 ⟨κ,q1,rfl⟩;grind [Gp]
   exact Aq hc q2 (O.2 j _ (aov E)) (V.2 j _ (aov E)) 9999
  simp only[Instr.sameBits,aoj,beq_iff_eq,X,true_and,ao4];rintro⟨a,b⟩ hm;have⟨j,Y⟩:=ao9 hm;simp_all <;>grind;have⟨κ,s,k1,k2,k3,k4⟩:=C6 h2 x;grind [BI,Aq]
 simp[Instr.keyThatStays,this]
variable {l:List (kk.T×O.T)}{y:O.T}{X W:Value}
theorem asJ.upd{ee:Own}{w':World}(g:aso F own w ee w')(h:asJ F own w kk O l es){i:Nat}(Y:Rel F own w (svT kk x) X)(hy:Rel F own w (svT O y) W)(hi:i<l.length):
  asJ F ee w' kk O (l.set i (x,y)) (es.modify i λe=>{ e with key:=X,val:=W}):=by
 refine⟨by simp[h.1],λj p E=>?_⟩;rw[ap_]at E;by_cases V:i=j
 subst V;rw[if_pos hi]at E;simp[aoo]at E;subst E;have⟨e,e1,e2,_⟩:=h.2 i _ (aov hi);exact⟨{ e with key:=X,val:=W},g6,e2,Y.mono g,hy.mono g⟩;rw[if_neg V]at E;have⟨e,e1,e2,e3,e4⟩:=h.2 j p E;exact⟨e,g6,e2,e3.mono g,e4.mono g⟩
theorem asJ.push{ee:Own}{w':World}(g:aso F own w ee w')(h:asJ F own w kk O l es){V:Value}(Y:Rel F own w (svT kk x) W)(hy:Rel F own w (svT O y) V)(c:Nat):
  asJ F ee w' kk O (l++[(x,y)]) (es.push ⟨W,V,c⟩):=by
 refine⟨by simp[h.1],λj p E=>?_⟩;rw[apl]at E;split at E
 have⟨e,e1,e2,e3,e4⟩:=h.2 j p E;exact⟨e,g6,e2,e3.mono g,e4.mono g⟩;have X:j=l.length:=by
  grind
 subst X;simp at E;subst E;exact⟨⟨W,V,c⟩,by rw[<-h.1];simp,trivial,Y.mono g,hy.mono g⟩
theorem asJ.erase{ee:Own}{w':World}(g:aso F own w ee w')(h:asJ F own w kk O l es)(i:Nat):
  asJ F ee w' kk O (l.eraseIdx i) (es.eraseIdxIfInBounds i):=by
 have V:es.toList.length=l.length:=by simpa using h.1
 refine⟨?_,λj p E=>?_⟩;grind [List.length_eraseIdx]
 rw[<-aqA,Array.toList_eraseIdxIfInBounds];rw[List.getElem?_eraseIdx]at E;split at E
 have⟨e,e1,e2,e3,e4⟩:=h.2 _ p E;exact⟨e,g6,e2,e3.mono g,e4.mono g⟩;have⟨e,e1,e2,e3,e4⟩:=h.2 _ p E;exact⟨e,g6,e2,e3.mono g,e4.mono g⟩
theorem LR (es:Array MapEntry)(i:Nat)(f:MapEntry->MapEntry)(E:∀ e,(f e).born=e.born):lX (es.modify i f)=lX es:=by
 unfold lX;refine List.ext_getElem? λj=>?_;grind
variable {c:Nat}
theorem Stamped.modify{i:Nat}{f:MapEntry->MapEntry}(h:Stamped es c)(E:∀ e,(f e).born=e.born):Stamped (es.modify i f) c:=by
 grind [Stamped,LR]
theorem Stamped.push(h:Stamped es c)(O E:Value):Stamped (es.push ⟨O,E,c⟩) (c+1):=by
 grind [lX,Stamped]
theorem Stamped.erase(h:Stamped es c)(i:Nat):Stamped (es.eraseIdxIfInBounds i) c:=by
 have e:(lX (es.eraseIdxIfInBounds i)).Sublist (lX es):=by
  grind [lX,Array.toList_eraseIdxIfInBounds]
 exact⟨h.1.sublist e,λn hn=>h.2 n (e.subset hn)⟩
theorem Kb {κ υ:Type}[DecidableEq κ]{x:κ}:∀ {l:List (κ×υ)},pN l x=none->CT l x=l
 | [],_=>rfl
 |(a,b)::r,h=>by
  simp[pN]at h;split at h
  cases h;rename_i E;simp[CT,if_neg E];rw[Kb (by cases O:pN r x with
   |none=>rfl
   |some i=>rw[O]at h;cases h)]
theorem Kc {κ υ:Type}[DecidableEq κ]{x:κ}:∀ {l:List (κ×υ)} {i:Nat},pN l x=some i->CT l x=l.eraseIdx i
 | [],i,h=>by rfl
 |(a,b)::r,i,h=>by
  simp[pN]at h;split at h
  rename_i V;cases h;simp[CT,V];rename_i E;cases O:pN r x with
  |none=>rw[O]at h;cases h
  |some j=>
   rw[O]at h;simp at h;subst h;simp[CT,E,Kc O]
theorem wh(Y:Hp F own w h){id:Nat}{hd:Hd}(h1:own id=some hd){b:Nat}(X:hd.bs=[b])(hv:hd.v=.map (some b))(hh:w.heap[b]? =some (.map es c))(E:Array MapEntry)(V:Nat){l':List (kk.T×O.T)}{p':Option (Nat×Option kk.T)}
  (hm:∀ ee w',aso F own w ee w'->asJ F ee w' kk O (fT kk O l' p') E) (hs:Stamped E V) (W:as_ own kk O l' E V p'):Step F own w (cW h id (.mp kk O l' p')) own (BJ w b (.map E V)):=by
 refine q_ Y h1 (b:=b) (by simp[X]) (by simp[BJ]) (λk hk=>Q9 hk) rfl rfl rfl _ λg=>⟨b,E,V,hv,X,?_,hm _ _ g,hs,W⟩;grind [BJ]
theorem Ta(W:Hp F own w h)(ht:ku P t=some ti){s sv:SV}{O V:Value}(hr:Rel F own w s v)(hrk:Rel F own w sk O)(hrv:Rel F own w sv V)(E:EO ti h sk sv s=r)(hne:r≠ .bad):
  ∃ ups,r=.eff True True ups .any/\∃ w',(Instr.mapUpdate t v O V).run P w=.ok () w'/\Step F own w (br h ups) own w':=by
 unfold EO at E;split at E
 rename_i id;obtain⟨hdd,h1,rfl,h2⟩:=jz hr;cases ho:ap h id with
 |mp kk vk l Y=>
  rw[ho]at E;simp[adO]at E;cases hc:mP kk ti.mkt&&mP vk ti.mvt&&noE Y with
  |false=>grind
  |true=>
   rw[hc]at E;simp[aoj]at hc;unfold adN at E;split at E
   rename_i x y hx hy;subst E;have⟨kt,e,q1,q2,q3⟩:=AL ht (o4 hc.1.1) (o4 hc.1.2);have⟨hd',e0,b,es,clk,m1,m2,m3,m4,m5,_⟩:=W.at ho rfl;rw[h1]at e0;cases e0;rw[lJ hc.2]at m4;have rx:=tB hrk hx;have ry:=tB hrv hy;have hg:(getObj b).run P w=.ok (.map es clk) w:=by simp[getObj,Sem.run,m3]
   have hset:∀ o,(setObj b o).run P w=.ok () (BJ w b o):=λo=>by simp[setObj,Sem.run,m3,BJ]
   have hck:=vt q2 rx false;have hfk:=w7 q2 rx m4.1 (λi p W=>by have⟨e,e1,e2,e3,_⟩:=m4.2 i p W;grind);simp[br];cases X:pN l x with
   |none=>
    have⟨_,n2,_⟩:=wg X;have:=wh W h1 m2 m1 m3 (es.push ⟨O,V,clk⟩) (clk+1) (l':=dF kk vk l x y) (p':=none) (λee w' g=>by
     grind [asJ.push,fT,dF]) (m5.push O V) trivial
    simp_all [Instr.mapUpdate,run_underlying]
   |some i=>
    have⟨y',n1,n2,n3,_⟩:=tV X;have⟨e',k1,k2,k3,k4⟩:=m4.2 i _ n1;have:=wh W h1 m2 m1 m3 (es.modify i λe=>{ e with key:=O,val:=V}) clk (l':=dF kk vk l x y) (p':=none) (λee w' g=>by
     grind [asJ.upd,fT,dF]) (m5.modify λ_=>rfl) trivial
    have hst:=S_ q2 k3 rx;simp_all [Instr.mapUpdate,run_underlying]
   grind
 |_=>rw[ho]at E;exact absurd E.symm hne
 grind
theorem aaJ(hp:Hp F own w h)(ht:ku P t=some ti){l:List SV}{vs:Array Value}(hl:ar7 F own w l vs)(O:AH ti h l=r)(hne:r≠ .bad){tys:Array TypeId}(Y:tys[0]? =some t)(ty:TypeId):
  ∃ ups,r=.eff True True ups .any/\∃ u w',(Builtin.delete_ tys ty vs).run P w=.ok u w'/\Step F own w (br h ups) own w':=by
 unfold AH at O;split at O
 ·rename_i id sk;have⟨vs⟩:=vs;have hsz:=hl.1;match vs,hsz with
  | [v0,vx],_=>
  have hr:Rel F own w (.os id) v0:=hl.2 0 _ rfl;have hrk:Rel F own w sk vx:=hl.2 1 _ rfl;obtain⟨hdd,h1,rfl,h2⟩:=jz hr;cases ho:ap h id with
  |mp kk vk l asE=>
   rw[ho]at O;simp[adS]at O;cases hc:mP kk ti.mkt&&mP vk ti.mvt&&noE asE with
   |false=>grind
   |true=>
    rw[hc]at O;simp[aoj]at hc;unfold adR at O;split at O
    rename_i x hx;subst O;have⟨kt,e,q1,q2,q3⟩:=AL ht (o4 hc.1.1) (o4 hc.1.2);have⟨hd',e0,b,es,clk,m1,m2,m3,m4,m5,_⟩:=hp.at ho rfl;rw[h1]at e0;cases e0;rw[lJ hc.2]at m4;have rx:=tB hrk hx;have hg:(getObj b).run P w=.ok (.map es clk) w:=by simp[getObj,Sem.run,m3]
    have W:∀ o,(setObj b o).run P w=.ok () (BJ w b o):=λo=>by simp[setObj,Sem.run,m3,BJ]
    have X:=vt q2 rx es.isEmpty;have V:=w7 q2 rx m4.1 (λi p hp=>by have⟨e,e1,e2,e3,_⟩:=m4.2 i p hp;grind);refine⟨_,rfl,?_⟩;cases E:pN l x with
    |none=>
     have:=wh hp h1 m2 m1 m3 es clk (l':=ud kk vk l x) (p':=none) (λee w' g=>by
      simp[ud,Kb E];exact m4.carry g.asr) m5 trivial
     refine⟨.tuple #[],_,?_,this⟩;rw[E]at V;simp[m1,Builtin.delete_,Y,aqB,aqW,aqX,aoT,run_underlying q1,aoW,hg,X,V,Option.bind_none,W,aqx]
    |some i=>
     have⟨y',n1,n2,n3,_⟩:=tV E;have⟨e',k1,k2,k3,k4⟩:=m4.2 i _ n1;have:=wh hp h1 m2 m1 m3 (es.eraseIdxIfInBounds i) clk (l':=ud kk vk l x) (p':=none) (λee w' g=>by
      simp[ud,Kc E];exact asJ.erase g m4 i) (m5.erase i) trivial
     refine⟨.tuple #[],_,?_,this⟩;rw[E]at V;simp[m1,Builtin.delete_,Y,aqB,aqW,aqX,aoT,run_underlying q1,aoW,hg,X,V,ap1,k1,aql,W,aqx]
    grind
  |_=>rw[ho]at O;exact absurd O.symm hne
 grind
theorem Ra{i:Nat}{e':MapEntry}(O:es[i]? =some e')(E:Value):(es.modify i λe=>{ e with key:=E})=es.modify i λe=>{ e with key:=E,val:=e'.val}:=by
 grind
theorem aaK(hp:Hp F own w h){nx:Nat}(hn:asQ own h nx)(ht:ku P t=some ti){s:SV}(hr:Rel F own w s v)(hrk:Rel F own w sk vx)(V:Bx ti nx h sk s=r)(hne:r≠ .bad):
  Eg F own w h ((Instr.mapEntry t v vx).run P w) r:=by
 unfold Bx at V;split at V
 ·rename_i id;obtain⟨hdd,h1,rfl,h2⟩:=jz hr;cases ho:ap h id with
  |mp kk vk l asE=>
   rw[ho]at V;simp only[Um]at V;cases hc:mP kk ti.mkt&&mP vk ti.mvt&&noE asE with
   |false=>grind
   |true=>
    rw[hc]at V;simp only[cond_true]at V;simp only[aoj]at hc;unfold Ul at V;split at V
    rename_i x hx;subst V;obtain⟨kt,e,q1,q2,q3⟩:=AL ht (o4 hc.1.1) (o4 hc.1.2);obtain⟨hd',e0,b,es,E,m1,m2,m3,m4,m5,_⟩:=hp.at ho rfl;rw[h1]at e0;cases e0;rw[lJ hc.2]at m4;have rx:=tB hrk hx;obtain⟨i,hi,Y⟩:=C4 q3;have hz:∃ z,i.zero=some z:=by
     have:=C3 Y;simp[FU]at this;grind
    obtain⟨z,hz⟩:=hz;have hzr:=Of (F:=F) (own:=own) (w:=w) Y hz;have hzv:(zeroValue e).run P w=.ok z w:=by simp[zeroValue,typeInfo,hi,hz]
    have hg:(getObj b).run P w=.ok (.map es E) w:=by simp[getObj,Sem.run,m3]
    have hset:∀ o,(setObj b o).run P w=.ok () (BJ w b o):=λo=>by simp[setObj,Sem.run,m3,BJ]
    have hck:=vt q2 rx false;have hfk:=w7 q2 rx m4.1 (λi p hp=>by have⟨e,e1,e2,e3,_⟩:=m4.2 i p hp;grind);have hidn:id≠nx:=λe=>by rw[e,hn.none]at h1;cases h1
    have st1:∀ n:Nat,Step F own w (cW h nx (.fwd none)) (own.move [] nx ⟨none,.int .i64 n,[],[]⟩) w:=λn=>
     mh (nx:=nx) hp hn [] (by simp) ⟨none,.int .i64 n,[],[]⟩ (.fwd none) (λb hb=>by simp at hb) (λ_ _ _=>rfl) (aom _) rfl rfl rfl λee g i hi=>by cases hi
    have go:∀ n:Nat,(own.move [] nx ⟨none,.int .i64 n,[],[]⟩) id=some hdd:=λn=>by grind [Own.move]
    have gx:∀ n:Nat,(own.move [] nx ⟨none,.int .i64 n,[],[]⟩) nx=some ⟨none,.int .i64 n,[],[]⟩:=λn=>by simp[Own.move]
    have fin:∀ (n:Nat) (O:Array MapEntry) (c':Nat),(∀ ee w',aso F own w ee w'->asJ F ee w' kk vk (fT kk vk l (some (nx,some x))) O)->Stamped O c'->(∃ e,O[xO kk vk l x]? =some e/\e.born=n)->
      Step F own w (br h [(nx,.fwd none),(id,.mp kk vk l (some (nx,some x)))]) (own.move [] nx ⟨none,.int .i64 n,[],[]⟩) (BJ w b (.map O c')):=λn O c' hm hs hpd=>by
     have⟨e1,p1,p2⟩:=hpd;have s1:=st1 n;have s2:=wh s1.hp (go n) m2 m1 m3 O c' (l':=l) (p':=some (nx,some x)) (λee w' g=>hm _ _ ⟨λid hd h=>by have⟨hd',a,b⟩:=s1.fr.asx.ids (F:=F) id hd h;have⟨W,a2,b2⟩:=g.ids _ _ a;exact⟨W,a2,b.trans b2⟩,λb hb hn=>by
      have⟨a1,a2⟩:=s1.fr.asx.keep b hb hn;have⟨a3,a4⟩:=g.keep b hb a1;grind,g.size⟩) hs ⟨_,e1,gx n,p1,by rw[p2]⟩
     refine⟨s2.hp,s1.fr.trans s2.fr,λj X hd=>?_⟩;have W:d_ (ap (cW (cW h nx (.fwd none)) id (.mp kk vk l (some (nx,some x)))) j)=true:=hd;rw[dU,dU]at W;by_cases e:j=nx
     subst e;rw[if_neg hidn,if_pos rfl]at W;cases W;grind [Own.move]
    cases hmi:pN l x with
    |none=>
     have⟨n1,n2,n3⟩:=wg hmi;have hpos:xO kk vk l x=es.size:=by rw[m4.1];simp[xO,n3]
     have:=fin E (es.push ⟨vx,z,E⟩) (E+1) (λee w' g=>by
      simp[fT];grind [asJ.push]) (m5.push vx z) ⟨⟨vx,z,E⟩,g6,rfl⟩
     refine⟨_,_,_,_,rfl,λ_=>⟨trivial,.tuple #[z,.int .i64 E],_,_,?_,.tup rfl λj s X=>?_,this⟩⟩;simp_all [Instr.mapEntry,run_underlying,goInt];match j,X with
     |0,X=>have:=hzr.mono this.fr.asx;simp_all [aC]|1,X=>cases X;exact .os (gx E) rfl
    |some i=>
     have⟨y',n1,n2,n3,n4⟩:=tV hmi;have⟨e',k1,k2,k3,k4⟩:=m4.2 i _ n1;have hes':=Ra k1 vx;have hpos:xO kk vk l x=i:=n4;have:=fin e'.born (es.modify i λe=>{ e with key:=vx}) E (λee w' g=>by
      simp[fT,n2];rw[hes'];have:=asJ.upd g m4 rx k4 (aop.1 n1).1
      rwa[show l.set i (x,y')=l by
       apply List.ext_getElem?;intro j;rw[ap_];grind]at this) (m5.modify λ_=>rfl) ⟨{ e' with key:=vx},g6,rfl⟩
     refine⟨_,_,_,_,rfl,λ_=>⟨trivial,.tuple #[e'.val,.int .i64 e'.born],_,_,?_,.tup rfl λj s X=>?_,this⟩⟩;have hst:=S_ q2 k3 rx;simp_all [Instr.mapEntry,run_underlying,goInt];match j,X with
     |0,X=>have:=k4.mono this.fr.asx;simp_all [aC]|1,X=>cases X;exact .os (gx _) rfl
    grind
  |_=>rw[ho]at V;exact absurd V.symm hne
 grind
theorem WO{i:Nat}{e:MapEntry}(E:(lX es).Nodup)(hi:es[i]? =some e):es.findIdx? (λx=>(x.born:Int) ==(e.born:Int))=some i:=by
 rw[Array.findIdx?_eq_some_iff_getElem];grind [List.pairwise_iff_getElem,lX]
theorem aaL(hp:Hp F own w h)(ht:ku P t=some ti){s ss sv:SV}{vs:Value}(hr:Rel F own w s v)(hrs:Rel F own w ss vs)(hrv:Rel F own w sv X)(E:Lz ti h sv s ss=r)(V:r≠ .bad):
  ∃ c ups,r=.eff c True ups .any/\(c->∃ w',(Instr.entryStore t v vs X).run P w=.ok () w'/\Step F own w (br h ups) own w'):=by
 unfold Lz at E;split at E
 ·rename_i id n;obtain⟨hdd,h1,rfl,h2⟩:=jz hr;obtain⟨hds,s1,rfl,_⟩:=jz hrs;cases ho:ap h id with
  |mp kk O l asE=>
   rw[ho]at E;cases asE with
   |none=>exact absurd E.symm V
   |some q=>
   have⟨n',q⟩:=q;cases q with
   |none=>exact absurd E.symm V
   |some x=>
   simp[adQ]at E;cases hc:mP kk ti.mkt&&mP O ti.mvt&&Nat.beq n' n with
   |false=>grind
   |true=>
    rw[hc]at E;unfold adP at E;split at E
    rename_i y hy;subst E;have⟨hd',e0,b,es,clk,m1,m2,m3,m4,m5,hd2,e',t1,k1,t3⟩:=hp.at ho rfl;rw[h1]at e0;cases e0;have ry:=tB hrv hy;refine⟨_,_,rfl,λ_=>?_⟩;simp[br];have hg:(getObj b).run P w=.ok (.map es clk) w:=by simp[getObj,Sem.run,m3]
    have hset:∀ o,(setObj b o).run P w=.ok () (BJ w b o):=λo=>by simp[setObj,Sem.run,m3,BJ]
    have W:∃ y0,(fT kk O l (some (n',some x)))[xO kk O l x]? =some (x,y0)/\dF kk O l x y=(fT kk O l (some (n',some x))).set (xO kk O l x) (x,y):=by
     cases Y:pN l x with
     |none=>
      have⟨n1,n2,n3⟩:=wg Y;simp_all [fT,xO,dF]
     |some i=>
      have⟨y',n1,n2,n3,n4⟩:=tV Y;grind [fT,xO,dF]
    have⟨y0,p1,p2⟩:=W;have⟨e'',k1',k2,k3,k4⟩:=m4.2 _ _ p1;rw[k1]at k1';cases k1';have hes':(es.modify (xO kk O l x) λe=>{ e with val:=X})=es.modify (xO kk O l x) λe=>{ e with key:=e'.key,val:=X}:=by
     apply arA;simp;simp[Array.getElem_modify];grind
    have:=wh hp h1 m2 m1 m3 (es.modify (xO kk O l x) λe=>{ e with val:=X}) clk (l':=dF kk O l x y) (p':=none) (λee w' g=>by
     grind [asJ.upd,fT]) (m5.modify λ_=>rfl) trivial
    have hfi:=WO m5.1 k1;simp_all [Instr.entryStore,asInt,vn];grind
  |_=>rw[ho]at E;exact absurd E.symm V
 grind
end
section
variable {P:Program}{F:Nat->Prop}{own:Own}{w:World}
variable {k:Tag}{m:List k.T}{v:Value}
theorem ar1.swap{W:List Nat}(h1:qZ v=true)(Y:arY F own w k m v W):∀ {l:List (List k.T)} {vs:List Value} {bs:List Nat} {i:Nat},ar1 F own w k l vs bs->i<l.length->bs.Nodup->W.Nodup->(∀ b∈bs,b ∉ W)->
  ∃ E,ar1 F own w k (l.set i m) (vs.set i v) E/\(∀ b∈E,b∈bs\/b∈W)/\E.Nodup
 |l::ls,u::vs,bs,0,⟨b1,b2,e,h0,h2,h3⟩,_,hn,hbn,hd=>by
  subst e;have O:=apF.1 hn;refine⟨W++b2,⟨W,b2,rfl,h1,Y,h3⟩,λb V=>?_,apF.2 ⟨hbn,O.2.1,λa X b V e=>hd b (apQ _ V) (e▸X)⟩⟩;grind
 |l::ls,u::vs,bs,i+1,⟨b1,b2,e,h0,h2,h3⟩,hi,hn,hbn,hd=>by
  subst e;have O:=apF.1 hn;obtain⟨E,q1,q2,q3⟩:=ar1.swap h1 Y h3 (by simpa using hi) O.2.1 hbn λb V=>hd b (apQ _ V);refine⟨b1++E,⟨b1,E,rfl,h0,h2,q1⟩,λb V=>?_,apF.2 ⟨O.1,q3,λa X b V e=>?_⟩⟩ <;>grind
 | [],_,_,_,_,hi,_,_,_=>absurd hi (Nat.not_lt_zero _)|_::_,[],_,_,h,_,_,_,_=>h.elim
theorem Step.fwd {h1:List Ob}{E:Own}{w1:World}(s:Step F own w h1 E w1){id nx:Nat}{hd0 hd':Hd}(W:E id=some hd0)(hb:hd0.bs=[])(hnx:E nx=some hd')(hv:hd'.v=hd0.v)(h0:qZ hd0.v=true)(hl:id<h1.length)(ho:own id≠none):
  Step F own w (cW h1 id (.fwd (some nx))) E w1:=by
 have V:∀ j,ap (cW h1 id (.fwd (some nx))) j=if id=j then .fwd (some nx)else ap h1 j:=λj=>dU ..;have Y:(cW h1 id (.fwd (some nx))).length=h1.length:=by rw[cT,if_pos hl]
 refine⟨s.hp.upd (aso.refl _ _ _) (λj=>j=id) g5 (λj O=>⟨rfl,g6,λ_ _ _ _=>rfl⟩) (λj hd O e=>?_) (λj O _=>?_),s.fr,λj O hd=>?_⟩;grind
 subst O;refine⟨hd0,W,?_⟩;rw[V,if_pos rfl];intro i e;grind;have X:id≠j:=λe=>ho (e▸O);rw[V,if_neg X]at hd;exact s.fresh j O hd
variable {h:List Ob}{t:TypeId}{ti:TI}
theorem UL(X:Hp F own w h){nx:Nat}(hn:asQ own h nx)(ht:ku P t=some ti){id E:Nat}{i:Int}{l:List (List k.T)}{vx:Value}(hr:Rel F own w (.rp 1 id i 0) v)(hrx:Rel F own w (.os E) vx)(hne:id≠E)(hsz:ti.size=1)
  (ho:ap h id=.ar2 k l) (ho2:ap h E=.row k m):∃ ee w',(Instr.storeAt t v vx).run P w=.ok () w'/\Step F own w (br h [(id,.dead),(E,.dead),(nx,.ar2 k (l.set i.toNat m)),(id,.fwd (some nx))]) ee w':=by
 cases hr with
 |rp h1 h2 h3=>
 rename_i n cap b o hd;obtain⟨O,g1,rfl,g2⟩:=jz hrx;obtain⟨hd',e0,e⟩:=X.at ho rfl;rw[h1]at e0;cases e0;obtain⟨hd2',e0,hm⟩:=X.at ho2 rfl;rw[g1]at e0;cases e0;rcases e with⟨q,_⟩ | ⟨b',o',cap',cs,ty,bs,e1,e2,e3,e4,e5,e6,e7,e8,e9⟩;grind
 have e1':=e1;rw[h2]at e1;simp only[aqw,aoo,ari]at e1;obtain⟨⟨rfl,rfl,_⟩,rfl,rfl⟩:=e1;obtain⟨cs',w',q1,V,q3,q4,q5⟩:=zv (P:=P) ht hrx (xs:=[.os E]) rfl (by rw[hsz];rfl) (λj s W v hv=>by
  cases j with
  |zero=>simp at W;subst W;obtain⟨hd3,_,rfl,k2⟩:=jz hv;exact nW k2
  |succ j=>simp at W) (off:=o+i.toNat) e4 (by simp;omega)
 have hnd:bs.Nodup/\b ∉ bs:=g6
 have hbb:b∈hd.bs:=g6
 have hdis:∀ c∈hd.bs,c ∉ O.bs:=λc hc hc2=>hne (X.inj id E hd O c h1 g1 hc hc2);have Y:O.bs.Nodup:=by rcases hm.blocks with e| ⟨c,e⟩ <;>rw[e] <;>simp
 have⟨bs',r1,r2,r3⟩:=e9.swap (i:=i.toNat) g2 hm h3 hnd.1 Y (λc hc=>hdis c g6);have hb':b ∉ bs':=λhm=>by
  grind
 have hK:∀ id'∈[id,E],∃ hd,own id'=some hd:=g6
 have hKl:id<h.length:=X.dom _ _ h1;have hnk:nx ∉ [id,E]:=λhm=>by have⟨hd,e⟩:=hK nx hm;rw[hn.none]at e;cases e
 have hu:cs'[o+i.toNat]? =some O.v:=by
  have⟨u,k1,k2⟩:=q4 (o+i.toNat) (aom _) (by simp);have⟨hd3,k3,k4,_⟩:=jz (k2 (.os E) (by simp));grind
 have st:=mh (w':=w') X hn [id,E] hK ⟨none,hd.v,hd.vs.set i.toNat O.v,b::bs'⟩ (.ar2 k (l.set i.toNat m)) (λc hc=>by
   grind)
  (λc _ hno=>V.other c λe=>hno ⟨id,by simp,hd,h1,e▸hbb⟩) (by rw[V.size];omega) V.os V.tape V.output
  (λee g=>.inr ⟨b,o,cap,cs',ty,bs',g6,rfl,ao2.2 ⟨hb',r3⟩,V.here,g5,g6,g6,λj u W=>by
    rw[ap_]at W;grind,r1.carry g.asr λc hc=>V.other c λe=>hb' (e▸hc)⟩)
 have hmv:=lD nx (.ar2 k (l.set i.toNat m)) [id,E] h 0 hnk (λj W=>by have⟨hd,e⟩:=hK j W;exact X.dom _ _ e);have:=st.fwd (id:=id) (nx:=nx) (hd0:= { hd with bs:=[]}) (hd':=⟨none,hd.v,hd.vs.set i.toNat O.v,b::bs'⟩) (by grind [Own.move]) rfl (by simp[Own.move]) rfl (by rw[h2];rfl) (aoy hKl hmv.2.1) (by rw[h1];simp);exact⟨_,w',g6,this⟩
def Gt {k:Tag}(a:Option Addr):∀ n:Nat,ar1 F own w k (List.replicate n []) (List.replicate n (.slice a 0 0)) []
 |0=>rfl|n+1=>⟨[],[],rfl,rfl,.inl ⟨a,rfl,rfl,rfl⟩,Gt a n⟩
variable {r:OR}
theorem aaM(hp:Hp F own w h){nx:Nat}(hn:asQ own h nx){te tr:TI}(ht:ku P t=some ti)(hte:ku P ti.elem=some te)(hsl:ti.isSlice=true){sl sc:SV}{vl vc:Value}(hrl:Rel F own w sl vl)(Y:Rel F own w sc vc)(O:Ly nx te tr sl sc=r)(hne:r≠ .bad):
  Eg F own w h ((Instr.makeSlice t vl vc).run P w) r:=by
 obtain⟨i,d,z,hi,hd,hz,hq,rfl⟩:=ce ht;have⟨ie,de,ze,hie,hde,hze,hqe,hte'⟩:=ce hte;cases d <;>simp[eK]at hsl;rename_i e;unfold Ly at O;split at O
 ·rename_i n c;have el:=c8 hrl;have ec:=c8 Y;subst el;subst ec;unfold aau at O;split at O
  ·cases E:Nat.beq te.size 1&&aat te.zero&&Nat.ble 1 te.bytes with
   |false=>grind
   |true=>
   rw[E]at O;subst O;simp[aoj]at E;have hes:te.size=ie.size:=by rw[hte'];rfl
   have heb:te.bytes=ie.bytes:=by rw[hte'];rfl
   have X:te.zero=svs ze:=by simp_all [eK]
   have t1:ie.size=1:=by simp_all
   have hzc:ze.cells= #[.slice none 0 0]:=by
    have:=E.1.2;rw[X]at this;unfold aat at this;split at this
    rename_i q;unfold svs at q;have q2:ze.cells.toList=[.slice none 0 0]:=by
     simp_all
    grind
    cases this
   refine⟨_,_,_,_,rfl,λ⟨hc1,V,hc3⟩ =>?_⟩;subst hc1;have hby:1<=ie.bytes:=by simp_all
   have hnb:n<=n*(ie.bytes:Int):=by
    have:n*1<=n*(ie.bytes:Int):=ap5 g5 V;omega
   have hnm:n<=(aI:Int):=by grind [dT,aI]
   refine⟨hnm,?_⟩;have W:=run_make (P:=P) w t e ie ze hd hie hze .i64 .i64 n n V (ao7 _) (by grind [dT]) (by grind [aI]);refine⟨_,_,_,W,Rel.os (F:=F) (id:=nx) (hd:=⟨none,.slice (some ⟨w.heap.size,0,none⟩) n.toNat n.toNat,List.replicate n.toNat (.slice none 0 0),[w.heap.size]⟩) (Own.ar_ _ _ _) rfl,wb hp hn (w1:=w) ⟨rfl,rfl,rfl,rfl⟩ _ _ _ rfl λee g=>.inr ⟨w.heap.size,0,n.toNat,_,e,[],by simp,rfl,by simp,lW _ _,?_,by simp,by simp;omega,λq x hx=>?_,Gt none _⟩⟩;grind [size_madeCells]
   have hql:q<n.toNat:=g6
   simp_all [madeCells,Nat.mod_one]
  grind
 grind
theorem UN(hp:Hp F own w h){nx:Nat}(hn:asQ own h nx)(ht:ku P t=some ti){s sx:SV}{Y:Value}(hr:Rel F own w s v)(X:Rel F own w sx Y)
  (E:uf ti.size nx h s sx=r) (V:r≠ .bad):∃ ups ee w',r=.eff True True ups .any/\(Instr.storeAt t v Y).run P w=.ok () w'/\Step F own w (br h ups) ee w':=by
 have old:sR ti.size h s (qQ sx)=r->∃ ups ee w',r=.eff True True ups .any/\(Instr.storeAt t v Y).run P w=.ok () w'/\Step F own w (br h ups) ee w':=λE=>by
  have⟨ups,e,w',e1,e2⟩:=UF (P:=P) hp ht hr X E V;grind
 unfold uf at E;split at E
 rename_i sz id i off W;cases hg:Lu (ap h id)with
 |false=>grind
 |true=>
  cases hc:Nat.beq ti.size 1&&Nat.beq sz 1&&Nat.beq off 0&& !(Nat.beq id W)with
  |false=>grind
  |true=>
   rw[hc]at E;simp only[aoj]at hc;have c1:=aok hc.1.1.1;have c2:=aok hc.1.1.2;have c3:=aok hc.1.2;have c4:id≠W:=λe=>by simp_all
   subst c2;subst c3;cases ho:ap h id with
   |ar2 k l=>
    rw[ho]at E;simp[F0]at E;cases O:ap h W with
    |row k' m'=>
     rw[O]at E;simp[QN]at E;split at E
     rename_i ek;subst ek;have⟨ee,w',e1,e2⟩:=UL (P:=P) hp hn ht hr X c4 c1 ho O;exact⟨_,ee,w',E.symm,e1,e2⟩;exact absurd E.symm V
    |_=>rw[O]at E;exact absurd E.symm V
   |_=>rw[ho]at hg;cases hg
 grind
theorem Gu{l:List k.T}{lo hi:Int}(h:hi.toNat<=l.length):(yr k l lo hi).length=l.length:=by
 grind [yr]
theorem I7 {z:Array Value}{n i:Nat}(h:i<n*z.size):(Builtin.zeroCells z n)[i]? =some (z[i % z.size]!):=by
 simp[Builtin.zeroCells,h]
theorem aaN(hp:Hp F own w h){te:TI}(ht:ku P t=some ti)(hte:ku P ti.elem=some te){l:List SV}{vs:Array Value}(hl:ar7 F own w l vs)(V:AG ti te h l=r)(hne:r≠ .bad)(ty:TypeId):
  Eg F own w h ((Builtin.clear_ #[t] ty vs).run P w) r:=by
 obtain⟨i,d,z,hi,hd,hz,hq,rfl⟩:=ce ht;obtain⟨ie,de,X,hie,hde,hze,hqe,hte'⟩:=ce hte;unfold AG at V;split at V
 ·rename_i s id lo E;obtain⟨vs⟩:=vs;have hsz:=hl.1;match vs,hsz with
  | [v0],_=>
  have hr:Rel F own w (.vw s id lo E) v0:=hl.2 0 _ rfl;cases hsl:(eK P t i d).isSlice with
  |false=>grind
  |true=>
  rw[hsl]at V;simp only[cond_true]at V;cases d <;>simp[eK]at hsl;rename_i e;simp only[eK]at hie;cases hr with
  | @vw _ _ cap _ _ hd' a h1 h2 hcap3=>
  cases ho:ap h id with
  |row k m=>
   rw[ho]at V;simp only[adM]at V;cases hc:Nat.beq s (aa k)&&SW k te.tag with
   |false=>grind
   |true=>
    rw[hc]at V;simp only[cond_true]at V;subst V;rw[aoj]at hc;have hs:=aok hc.1;have W:te.tag=some k:=by
     cases hq:te.tag with
     |none=>grind [SW]|some b=>rw[hq]at hc;rw[wc (k:=k) (k':=b) hc.2]
    have as7:Aj P e ie=some k:=by rw[hte']at W;exact W
    obtain⟨t1,t2,t3,t4⟩:=BH (F:=F) (own:=own) (w:=w) as7;have hrz:=(t4 X hze).1;have hzs:X.cells.size=aa k:=by rw[hrz.1,cm]
    have hzv:(zeroValue e).run P w=.ok X w:=by simp[zeroValue,typeInfo,hie,hze]
    obtain⟨hdd,e0,O⟩:=hp.at ho rfl;rw[h1]at e0;cases e0;have O:arY F own w k m hd'.v hd'.bs:=O;refine⟨_,_,_,_,rfl,λ_=>⟨trivial,.tuple #[],own,?_⟩⟩;simp only[br];by_cases hlt:E.toNat<=lo.toNat
    have hn0:E.toNat - lo.toNat=0:=g5
    refine⟨w,?_,.any _,?_⟩;rw[hn0];cases a <;>simp[Builtin.clear_,run_underlying hd];rw[yr,if_pos hlt];exact J5 hp h1 _ O;obtain⟨b,o,n,cap',e1,e2,e3⟩:=h2.resolve_left hlt;subst e3;rcases O with⟨a',q1,rfl,q2⟩ | ⟨b',o',cap2,cs,ty2,q1,q2,q3,q4,q5,q6,q7⟩;grind
    rw[e1]at q1;simp only[aqw,aoo,ari]at q1;obtain⟨⟨rfl,rfl,_⟩,rfl,rfl⟩:=q1;subst hs;have hN:(E.toNat - lo.toNat)≠0:=g5
    obtain⟨N,hN'⟩:∃ N,E.toNat - lo.toNat=N+1:=⟨E.toNat - lo.toNat - 1,g5⟩;have hmul:lo.toNat*aa k+(E.toNat - lo.toNat)*aa k<=cap'*aa k:=by
     rw[<-aqP];exact aoz _ g5
    have hzc:(Builtin.zeroCells X.cells (E.toNat - lo.toNat)).toList.length=(E.toNat - lo.toNat)*aa k:=by rw[Array.length_toList,sT,hzs]
    have hone:∀ v∈(Builtin.zeroCells X.cells (E.toNat - lo.toNat)).toList,v.oneCell'=true:=λv hv=>by
     have hm:v∈X.cells:=by
      simp only[Builtin.zeroCells]at hv;simp at hv;have⟨w9,hv1,hv2⟩:=hv;have hpos:0<X.cells.size:=by
       grind
      have:=aqq w9 hpos;grind
     obtain⟨j,hj,rfl⟩:=ara hm;have Y:j< (cellsOf k (fg k)).length:=by rw[<-hrz.1];exact hj
     have:=hrz.2 j _ (aov Y);have h9:=LK (aov Y) this;rw[aoP,apR hj]at h9;exact nW h9
    obtain⟨cs',w',p1,p2,p3,p4⟩:=li (P:=P) (b:=b) (o:=o+lo.toNat*aa k) (ty:=ty2) (Builtin.zeroCells X.cells (E.toNat - lo.toNat)).toList 0 w cs q3 g5 hone;refine⟨w',?_,.any _,q_ hp h1 (b:=b) (by rw[q2];simp) p2.size p2.other p2.os p2.tape p2.output _ λg=>.inr ⟨b,o,cap',cs',ty2,?_,q2,p2.here,g5,?_,?_,?_⟩⟩;simp_all [Builtin.clear_,run_underlying];grind [Gu]
    grind [Gu]
    grind [Gu]
    intro q x hx j s hj;rw[yr,if_neg hlt]at hx;have Y:j<aa k:=by grind [cm]
    rw[p4,hzc];have hql:q<m.length:=by
     grind
    by_cases hin:lo.toNat<=q/\q<E.toNat
    have hx':x=fg k:=by
     grind [List.getElem?_append_left]
    subst hx';have hlow:lo.toNat*aa k<=q*aa k:=aoz _ hin.1;have hup:q*aa k+aa k<=E.toNat*aa k:=by rw[<-aqf];exact aoz _ hin.2
    have hsub:(E.toNat - lo.toNat)*aa k=E.toNat*aa k - lo.toNat*aa k:=arB _ _ _;rw[if_pos g5];refine⟨X.cells.getD j undef,?_,(hrz.2 j s hj).mono g⟩;have hidx:o+q*aa k+j - (o+lo.toNat*aa k+0)=(q - lo.toNat)*aa k+j:=by rw[arB];omega
    have hmod:((q - lo.toNat)*aa k+j) % aa k=j:=by rw[Nat.mul_comm,Nat.mul_add_mod,aqV Y]
    have:=I7 (z:=X.cells) (n:=E.toNat - lo.toNat) (i:=(q - lo.toNat)*aa k+j) g6;simp_all;rw[if_neg (by
     rintro⟨a1,a2⟩;apply hin;rw[arB]at a2;refine⟨?_,?_⟩;apply aoU;intro hc;have:(q+1)*aa k<=lo.toNat*aa k:=aoz _ g5;grind
     apply aoU;intro hc;have h5:E.toNat*aa k<=q*aa k:=aoz _ g5;omega)]
    have hx2:m[q]? =some x:=by
     by_cases h0:q<lo.toNat
     grind
     rw[apM (by simp;omega),aqK]at hx;grind
    have⟨u,u1,u2⟩:=q7 q x hx2 j s hj;exact⟨u,u1,u2.mono g⟩
  |_=>rw[ho]at V;exact absurd V.symm hne
 grind
end
end Go.Sx
end
section
namespace Go.Sx
variable {P:Program}
variable {since clock:Nat}{seen:Array Nat}{es:Array MapEntry}
theorem LS{w:World}{ty:TypeId}{b bm c0:Nat}(V:w.heap[b]? =some (.mapIter (some bm) since seen c0))(hm:w.heap[bm]? =some (.map es clock))(E:∀ x∈es.toList,x.born<since)(X:since<=c0):
  ((leftOf es seen).size=0/\(Instr.next (.pointer (some ⟨b,0,none⟩)) false ty).run P w=.ok (.tuple #[.bool false]) w)\/
  ∃ e∈(leftOf es seen).toList,∃ w1:World,(w1=w\/w1=w.drew)/\(Instr.next (.pointer (some ⟨b,0,none⟩)) false ty).run P w=.ok (.tuple #[.bool true,e.key,e.val]) { w1 with heap:=w1.heap.setIfInBounds b (.mapIter (some bm) since (seen.push e.born) clock)}:=by
 simp only[Instr.next,getObj,aoT,Sem.run,V,hm,Result.andThen,next_test_false seen es since c0 E X];unfold leftOf;have O:∀ x∈(Array.filter (λe=>!seen.contains e.born) es).toList,x.born<since:=λx hx=>E x g6;generalize Array.filter (λe=>!seen.contains e.born) es=L at O |-;have e1:L.filter (λx=>decide (x.born<since))=L:=Array.filter_eq_self.2 (λx hx=>g6);have e2:L.filter (λx=>decide (x.born>=since))= #[]:=by
  simp_all
 simp only[e1,e2];by_cases h0:L.size=0
 simp_all [Question.forced];right;have W:∃ (j:Nat) (w1:World),j<L.size/\(w1=w\/w1=w.drew)/\(choose (Question.mapNext L.size)).run P w=.ok j w1:=by
  by_cases Y:L.size<=1
  exact⟨0,w,g5,.inl rfl,by simp[Question.forced,Y]⟩;exact⟨_,w.drew,aqq _ g5,.inr rfl,by
   simp[choose,Sem.run,Question.forced,Y];rfl⟩
 have⟨j,w1,hj,hal,hrun⟩:=W;have hb1:w1.heap[b]? =some (.mapIter (some bm) since seen c0):=by
  rcases hal with rfl|rfl;exact V;exact V
 refine⟨L[j],by simp,w1,hal,?_⟩;simp_all [setObj,Sem.run]
theorem I8{w:World}{b bm:Nat}{e:MapEntry}(O:w.heap[b]? =some (.mapIter (some bm) since (seen.push e.born) clock))(V:w.heap[bm]? =some (.map es clock))(E:e∈es.toList)(hn:(es.toList.map (·.born)).Nodup):
  (Instr.entry (.pointer (some ⟨b,0,none⟩))).run P w=.ok (.tuple #[e.key,e.val]) w:=by
 have W:es.find? (·.born==e.born)=some e:=by rw[<-Array.find?_toList];exact find_born e es.toList hn E
 simp only[Instr.entry,getObj,aoT,Sem.run,O,V,Result.andThen,Array.back?_push,bne_self_eq_false,W];rfl
end Go.Sx
end
section
namespace Go.Sx
open Go.RowKit
section
variable {P:Program}{F:Nat->Prop}{own:Own}{w:World}{ts:Tis}
def UO (v:Value)(vs:Array Value):Sem Next:=do
 let d <-Deferred.ofValue v vs
 invoke d.target d.args
variable {t:TypeId}
theorem EQ(w:World)(m:Nat){e:TypeId}(E:Option Addr)(n c:Nat)(hd:P.underlying t=some (.slice e)):(Op.equalIn (m+1) t (.slice E n c) (.slice none 0 0)).run P w=.ok E.isNone w:=by
 cases E <;>simp[Op.equalIn,run_underlying hd]
def Rb (P:Program)(F:Nat->Prop)(own:Own)(w:World)(h:List Ob)(run:Result Next):OR->Prop
 | .val s=>∃ u,run=.ok (.value u) w/\Rel F own w s u| .chk c s=>c->∃ u,run=.ok (.value u) w/\Rel F own w s u| .asm c s=>c/\∃ u,run=.ok (.value u) w/\Rel F own w s u| .asD s=>∃ u cs ty,run=.ok (.value u) (w.alloc (.cells cs ty))/\Rel F own (w.alloc (.cells cs ty)) s u| .eff c a ups s=>c->a/\∃ u ee w',(run=.ok (.value u) w'\/(run=.ok .skip w'/\u=undef))/\Rel F ee w' s u/\Step F own w (br h ups) ee w'| .call f args=>∃ vs:Array Value,ar7 F own w args vs/\run=(callFunc f vs).run P w| .yld id args=>∃ hd,own id=some hd/\∃ vs,ar7 F own w args vs/\run=(UO hd.v vs).run P w| .nxt id=>∃ hd b,own id=some hd/\hd.p=some b/\∃ ty,∀ u w',(Instr.next (.pointer (some ⟨b,0,none⟩)) false ty).run P w=.ok u w'->run=.ok (.value u) w'| .amb p=>∃ b,p b/\run=.ok (.value (.bool b)) w| .pan x=>run=.halt (.panic x) w| .bad=>True
theorem Oh {cx:Cx}{a:Act}(E:∀ x,Rel F own w (val cx x) (a.eval x)):∀ (l:List Operand),(dO cx l).length=l.length/\∀ (j:Nat) (s:SV),(dO cx l)[j]? =some s->∃ x,l[j]? =some x/\Rel F own w s (a.eval x)
 | [] =>⟨rfl,λj s h=>by simp[dO]at h⟩
 |x::r=>by
  have⟨h1,h2⟩:=Oh E r;grind [dO]
theorem wi {cx:Cx}{a:Act}(E:∀ x,Rel F own w (val cx x) (a.eval x))(l:Array Operand):ar7 F own w (dO cx l.toList) (l.map a.eval):=by
 have⟨h1,h2⟩:=Oh E l.toList;refine⟨by simp[h1],λj s O=>?_⟩;simp_all <;>grind
theorem C7 {cx:Cx}{a:Act}(E:∀ x,Rel F own w (val cx x) (a.eval x)):∀ (l:List (Nat×Operand)),(kv cx l).map (·.1)=(l.map λ(i,x) =>(i,a.eval x)).map (·.1)/\
  ∀ (j:Nat) (x:Nat×SV) (y:Nat×Value),(kv cx l)[j]? =some x->(l.map λ(i,x) =>(i,a.eval x))[j]? =some y->Rel F own w x.2 y.2
 | [] =>⟨rfl,λj x y h=>g6⟩
 |(i,x)::r=>by
  have⟨h1,h2⟩:=C7 E r;grind [kv]
variable {r:OR}
theorem cA{k:TI->OR}(E:ts.ok P)(h:aO ts t k=r)(hr:r≠ .bad):∃ ti,ku P t=some ti/\k ti=r:=by
 unfold aO at h;cases O:ts t with
 |none=>grind|some i=>simp[O]at h;exact⟨i,E t i O,h⟩
variable {h:List Ob}
theorem avf{E:Result Next}(O:r≠ .bad->Rb P F own w h E r):Rb P F own w h E r:=by
 cases r with
 |bad=>trivial
 |_=>exact O (by simp)
theorem avm {s:Sem Value}{u:Value}(h:s.run P w=.ok u w):(do pure (Next.value (<-s)):Sem Next).run P w=.ok (.value u) w:=by
 simp[h]
variable {a:Operand}
theorem Oi(h:FX a=true):a=.const (.bool true):=by
 grind [FX]
theorem LU(h:Br a=true):a=.const (.bool false):=by
 grind [Br]
theorem pr{x:Option SV}(h:v9 x=r)(hr:r≠ .bad):∃ s,x=some s/\r=.val s:=by
 cases x with
 |none=>exact absurd h.symm hr|some s=>exact⟨s,rfl,h.symm⟩
theorem wj{s:Sem Value}(E:Eg F own w h (s.run P w) r):Rb P F own w h ((do pure (Next.value (<-s)):Sem Next).run P w) r:=by
 obtain⟨c,a,ups,O,rfl,h1⟩:=E;intro hc;have⟨ha,u,ee,w',h2,h3,h4⟩:=h1 hc;simp_all
theorem Oj{ti:TI}{s:SV}(e:tq ti h s=r)(hr:r≠ .bad):∃ s',r=.val s':=by
 have V:∀ {a:Bool} {n off:Nat} {o:Ob},Bu a n off o=r->∃ s',r=.val s':=by
  intro a n off o e;unfold Bu at e;split at e
  have⟨s',_,h'⟩:=pr e hr;grind;grind
 have O:∀ {a:Bool} {n z id off:Nat} {i:Int} {o:Ob},FZ a n z id i off o=r->∃ s',r=.val s':=by
  intro a n z id off i o e;unfold FZ at e;split at e
  rename_i k l;cases W:Nat.beq z (aa k)with
  |false=>grind|true=>rw[W]at e;have⟨s',_,h'⟩:=pr e hr;grind
  grind
  grind
 have E:∀ {a:Bool} {n z off:Nat} {i j:Int} {o:Ob},CV a n z i j off o=r->∃ s',r=.val s':=by
  intro a n z off i j o e;unfold CV at e;split at e
  rename_i k l;cases W:Nat.beq z (aa k)with
  |false=>grind|true=>rw[W]at e;have⟨s',_,h'⟩:=pr e hr;grind
  grind
 unfold tq at e;split at e
 grind
 have⟨s',_,h'⟩:=pr e hr;grind;exact O e;exact E e;grind
theorem Rc{n:Nat}{s:SV}(e:CW n s=r)(hr:r≠ .bad):∃ s',r=.val s':=by
 unfold CW at e;grind
theorem BN {cx:Cx}{a:Act}(E:∀ x,Rel F own w (val cx x) (a.eval x))(o:Option Operand):(∀ s,pZ cx o=some s->∃ u,o.map a.eval=some u/\Rel F own w s u)/\(pZ cx o=none->o.map a.eval=none):=by
 cases o with
 |none=>grind [pZ]|some x=>grind [pZ]
variable {l:List SV}
def Tb(O:Hp F own w h){nx:Nat}(hn:asQ own h nx){v:Value}{ty:TypeId}(E:ar7 F own w l v.cells):Step F own w (br h [(nx,Ob.cells l)]) (own.set nx ⟨some w.heap.size,undef,[],[w.heap.size]⟩) (w.alloc (.cells v.cells ty))/\Rel F (own.set nx ⟨some w.heap.size,undef,[],[w.heap.size]⟩) (w.alloc (.cells v.cells ty)) (.ptr nx 0) (.pointer (some ⟨w.heap.size,0,none⟩)):=
 ⟨wb O hn (w1:=w) ⟨rfl,rfl,rfl,rfl⟩ (.cells v.cells ty) (.cells l) _ rfl λee g=>⟨w.heap.size,v.cells,ty,rfl,rfl,lW _ _,E.1,λj s V=>(E.2 j s V).mono g⟩,.ptr (Own.ar_ _ _ _) rfl⟩
theorem ar7.app{m:List SV}{E vs:Array Value}(h1:ar7 F own w l E)(h2:ar7 F own w m vs):ar7 F own w (l++m) (E++vs):=by
 refine⟨by simp[h1.1,h2.1],λj s O=>?_⟩;rw[apl]at O;split at O
 rename_i hlt;rw[vo (j:=j) (ws:=E) (by rw[aoL (by rw[h1.1];exact hlt)])];exact h1.2 j s O;rw[vo (j:=j - E.size) (ws:=vs) (by rw[apG (by rw[h1.1];omega)])];rw[h1.1];exact h2.2 _ s O
theorem Rd{ops:List Oper}{g:Option (Nat×Bool)}{t:List (Nat×SV)}{nx:Nat}(E:ts.ok P)(hp:Hp F own w h)(hn:asQ own h nx){a:Act}{o:Oper}
  (X:∀ x,Rel F own w (val ⟨ts,ops,g,⟨t,h⟩,nx⟩ x) (a.eval x))
  (hpk:∀ c x y,o.op=.pick c x y->(a.eval c=.bool true->Rel F own w (lV ops g c true (raw t x)) (a.eval x))/\(a.eval c=.bool false->Rel F own w (lV ops g c false (raw t y)) (a.eval y))):
  Rb P F own w h ((execOp a.eval o).run P w) (opS ⟨ts,ops,g,⟨t,h⟩,nx⟩ o.op):=by
 obtain⟨dst,op,ty,pos,after,guard⟩:=o;simp only at hpk |-;refine avf λhr=>?_;generalize he:opS ⟨ts,ops,g,⟨t,h⟩,nx⟩ op=r at hr |-;cases op with
 |move x=>subst he;exact⟨_,rfl,X x⟩|assign x=>subst he;exact⟨_,rfl,X x⟩
 |pick c x y=>
  have hc:Rel F own w (bT ops g (raw t c)) (a.eval c):=X c;change FY x y (bT ops g (raw t c)) (lV ops g c true (raw t x)) (lV ops g c false (raw t y))=r at he;unfold FY at he;split at he
  rename_i sx sy sz bc bx bz hsc hsx hsy;rw[hsc]at hc;have hec:=c8 hc;have W:(execOp a.eval { dst:=dst,op:=.pick c x y,type:=ty,pos:=pos,after:=after,guard:=guard}).run P w=.ok (.value (if bc then a.eval x else a.eval y)) w:=by
   simp[execOp,hec,asBool]
  cases hx:FX x with
  |true=>
   simp[hx]at he;subst he;refine⟨_,W,?_⟩;have hx':=Oi hx;cases bc with
   |true=>simp[hx'];exact .v _|false=>grind
  |false=>
   cases hy:Br y with
   |true=>
    simp[hx,hy]at he;subst he;refine⟨_,W,?_⟩;have hy':=LU hy;cases bc with
    |true=>grind|false=>rw[hy'];exact .v _
   |false=>grind
  rename_i sx sy sz bc bz hsc hsx hsy;rw[hsc]at hc;have hec:=c8 hc;subst he;intro hcf;simp_all [execOp,asBool];rename_i sx sy sz bc bx hsc hsx hsy;rw[hsc]at hc;have hec:=c8 hc;subst he;intro hcf;simp_all [execOp,asBool];grind
 |alloc V=>
  have⟨ti,Y,he⟩:=cA (k:=λti=>Lv nx (some ti.zero)) E he hr;subst he;obtain⟨i,d,z,hi,hd,hz,hq,rfl⟩:=ce Y;have hzz:(eK P V i d).zero=svs z:=by simp[eK,hz]
  intro _;have⟨q1,q2⟩:=Tb (ty:=V) hp hn (l:=svs z) (v:=z) (zu z);rw[hzz];exact⟨trivial,_,_,_,.inl (by simp[execOp,Instr.alloc,zeroValue,typeInfo,hi,hz,newVar,newRow]),q2,q1⟩
 |box V x=>
  change Lv nx (qQ (val _ x))=r at he;cases hf:qQ (val ⟨ts,ops,g,⟨t,h⟩,nx⟩ x)with
  |none=>rw[hf]at he;exact absurd he.symm hr
  |some l=>
   rw[hf]at he;subst he;intro _;have⟨q1,q2⟩:=Tb (ty:=V) hp hn (v:=a.eval x) (Gi (X x) hf);exact⟨trivial,_,_,_,.inl (by rfl),q2,q1⟩
 |build V O=>
  have⟨ti,Y,he⟩:=cA (k:=λti=>bif ti.asF then aO ts ti.elem λte=>QO (mY (λi=>some (i*te.size,te.size)) ti.zero (kv ⟨ts,ops,g,⟨t,h⟩,nx⟩ O.toList))
   else bif ti.agg then QO (mY (λi=>(nth ti.fields i).map λf:Nat×Nat×Bool=>(f.1,f.2.1)) ti.zero (kv ⟨ts,ops,g,⟨t,h⟩,nx⟩ O.toList))else .bad) E he hr
  have⟨p1,p2⟩:=C7 X O.toList;have W:(execOp a.eval { dst:=dst,op:=.build V O,type:=ty,pos:=pos,after:=after,guard:=guard})=(do pure (Next.value (<-Instr.build V (O.map λ(i,x) =>(i,a.eval x))))):=rfl;have key:∃ l,r=.val (.agg l)/\((ti.asF=true/\∃ te,ku P ti.elem=some te/\mY (λi=>some (i*te.size,te.size)) ti.zero (kv ⟨ts,ops,g,⟨t,h⟩,nx⟩ O.toList)=some l)\/
     (ti.asF=false/\ti.agg=true/\mY (λi=>(nth ti.fields i).map λf=>(f.1,f.2.1)) ti.zero (kv ⟨ts,ops,g,⟨t,h⟩,nx⟩ O.toList)=some l)):=by
   cases ha:ti.asF with
   |true=>
    simp[ha]at he;have⟨te,hte,he⟩:=cA E he hr;cases hf:mY (λi=>some (i*te.size,te.size)) ti.zero (kv ⟨ts,ops,g,⟨t,h⟩,nx⟩ O.toList)with
    |none=>simp[hf]at he;exact absurd he.symm hr|some l=>simp[hf]at he;exact⟨l,he.symm,.inl ⟨rfl,te,hte,hf⟩⟩
   |false=>
    cases hg:ti.agg with
    |false=>grind
    |true=>
     simp[ha,hg]at he;cases hf:mY (λi=>(nth ti.fields i).map λf=>(f.1,f.2.1)) ti.zero (kv ⟨ts,ops,g,⟨t,h⟩,nx⟩ O.toList)with
     |none=>simp[hf]at he;exact absurd he.symm hr|some l=>simp[hf]at he;exact⟨l,he.symm,.inr ⟨rfl,rfl,rfl⟩⟩
  obtain⟨l,rfl,hcase⟩:=key;obtain⟨u,e1,e2⟩:=WD (P:=P) Y (vps:=O.map λ(i,x) =>(i,a.eval x)) (by simpa using p1) (by simpa using p2) hcase;exact⟨u,by simp_all,e2⟩
 |buildSlice V n O=>
  have⟨ti,Y,he⟩:=cA (k:=λti=>aO ts ti.elem λte=>NV (QQ V ops g) nx te (bsS ti te n (kv ⟨ts,ops,g,⟨t,h⟩,nx⟩ O.toList))) E he hr;have⟨te,hte,he⟩:=cA (k:=λte=>NV (QQ V ops g) nx te (bsS ti te n (kv ⟨ts,ops,g,⟨t,h⟩,nx⟩ O.toList))) E he hr;have⟨p1,p2⟩:=C7 X O.toList;have hne:bsS ti te n (kv ⟨ts,ops,g,⟨t,h⟩,nx⟩ O.toList)≠ .bad:=λe=>by rw[e]at he;exact hr he.symm
  have⟨s,cs,ty2,u,hs0,e1,e2,e3⟩:=adV (P:=P) hp Y hte (n:=n) (vps:=O.map λ(i,x) =>(i,a.eval x)) (by simpa using p1) g6 rfl hne;rw[hs0]at he;have plain:r=.asD s->Rb P F own w h ((execOp a.eval ⟨dst,.buildSlice V n O,ty,pos,after,guard⟩).run P w) r:=λe=>by
   subst e;exact⟨u,cs,ty2,by simp[execOp,e1],e2⟩
  cases s with
  |rs k xs=>
   change (bif(te.agg||one xs)&&noG (QQ V ops g)then OR.eff True True [(nx,.row k xs)] (.os nx)else .asD (.rs k xs))=r at he;cases hb:(te.agg||one xs)&&noG (QQ V ops g)with
   |false=>grind
   |true=>
    rw[hb]at he;subst he;have⟨m1,m2,m3,m4⟩:=e3 k xs rfl;refine λ_=>⟨trivial,u,own.set nx ⟨none,.slice (some ⟨w.heap.size,0,none⟩) xs.length xs.length,[],[w.heap.size]⟩,w.alloc (.cells cs ty2),.inl (by simp[execOp,e1]),?_,?_⟩;rw[m1];exact Rel.os (F:=F) (id:=nx) (hd:=⟨none,.slice (some ⟨w.heap.size,0,none⟩) xs.length xs.length,[],[w.heap.size]⟩) (Own.ar_ _ _ _) rfl;exact wb hp hn (w1:=w) ⟨rfl,rfl,rfl,rfl⟩ _ _ _ rfl λee g=>.inr ⟨w.heap.size,0,xs.length,cs,ty2,rfl,rfl,lW _ _,g5,aom _,m3,λq x hx j s hj=>by
     have⟨u',h1,h2⟩:=m4 q x hx j s hj;exact⟨u',h1,h2.mono g⟩⟩
  |_=>exact plain he.symm
 |load V x=>
  have⟨ti,Y,he⟩:=cA (k:=λti=>tq ti h (val ⟨ts,ops,g,⟨t,h⟩,nx⟩ x)) E he hr;obtain⟨s',rfl⟩:=Oj he hr;have⟨u,e1,e2⟩:=N4 (P:=P) hp Y (X x) he;exact⟨u,by simp_all [execOp],e2⟩
 |store V x y=>
  have⟨ti,Y,he⟩:=cA (k:=λti=>uf ti.size nx h (val ⟨ts,ops,g,⟨t,h⟩,nx⟩ x) (val ⟨ts,ops,g,⟨t,h⟩,nx⟩ y)) E he hr;obtain⟨ups,ee,w',rfl,e1,e2⟩:=UN (P:=P) hp hn Y (X x) (X y) he hr;exact λ_=>⟨trivial,undef,ee,w',.inr ⟨by simp[execOp,e1],rfl⟩,.any _,e2⟩
 |nilCheck x=>
  have hx:=X x;change Wg (val _ x)=r at he;generalize hvx:a.eval x=vx at hx;unfold Wg at he;split at he
  rename_i id off hs;subst he;rw[hs]at hx;cases hx with
  |ptr q1 q2=>exact⟨_,by simp[execOp,hvx],.ptr q1 q2⟩
  rename_i l off hs;subst he;rw[hs]at hx;cases hx with
  |ep cf q1 q2=>exact⟨_,by simp[execOp,hvx],.ep cf q1 q2⟩
  rename_i hs;subst he;rw[hs]at hx;cases hx with
  |rp q1 q2 q3=>exact⟨_,by simp[execOp,hvx],.rp q1 q2 q3⟩
  rename_i hs;subst he;rw[hs]at hx;cases hx with
  |gp q1 q2 q3=>exact⟨_,by simp[execOp,hvx],.gp q1 q2 q3⟩
  rename_i f first caps hs
  subst he;rw[hs]at hx;cases hx with
  |fn q1 q2 q3 q4=>exact⟨_,by simp[execOp,hvx],.fn q1 q2 q3 q4⟩
  grind
 |binOp op xt x y yt=>
  change Ls ts op xt (val _ x) (val _ y)=r at he;have hx:=X x;have hy:=X y;generalize val ⟨ts,ops,g,⟨t,h⟩,nx⟩ x=sx at hx he;generalize val ⟨ts,ops,g,⟨t,h⟩,nx⟩ y=sy at hy he;have W:∀ {vx vy:Value},a.eval x=vx->a.eval y=vy->(eqGuard op xt x y vx vy).run P w=.ok () w->∀ u,(Go.binOp op xt vx vy).run P w=.ok u w->(execOp a.eval { dst:=dst,op:=.binOp op xt x y yt,type:=ty,pos:=pos,after:=after,guard:=guard}).run P w=.ok (.value u) w:=by
   simp_all [execOp]
  unfold Ls at he;split at he
  have⟨hsk,h3⟩:=QW he hr;have ex:=c8 hx;have ey:=c8 hy;cases r with
  |val s=>
   obtain⟨u,e1,rfl⟩:=Ux (P:=P) (w:=w) (ty:=xt) hsk h3.symm;exact⟨u,W ex ey (Ec ..) u e1,.v u⟩
  |chk c s=>
   intro hc;obtain⟨u,e1,rfl⟩:=Uy (P:=P) (w:=w) (ty:=xt) hsk h3.symm hc;exact⟨u,W ex ey (Ec ..) u e1,.v u⟩
  |bad=>grind|_=>exfalso;cases op <;>simp[v8]at h3
  obtain⟨ti,Y,he⟩:=cA (k:=λti=>eqS op ti sx sy) E he hr;obtain⟨i,d,z,hi,hd,hz,hq,rfl⟩:=ce Y;unfold eqS at he;split at he
  rename_i l _ _;have ey:=c8 hy;cases hb:(eK P xt i d).isSlice with
  |false=>grind
  |true=>
   rw[hb]at he;have hds:∃ e,d=.slice e:=by cases d <;>simp[eK]at hb;grind
   have hg:∀ (ad:Option Addr) (n c:Nat),(eqGuard op xt x y (.slice ad n c) (.slice none 0 0)).run P w=.ok () w:=λad n c=>by simp_all [eqGuard]
   have hq:∀ (ad:Option Addr) (n c:Nat),(Op.equal xt (.slice ad n c) (.slice none 0 0)).run P w=.ok ad.isNone w:=λad n c=>by
    grind [EQ,Op.equal,Op.maxDepth]
   have hsl:∃ ad n c,a.eval x=.slice ad n c/\(ad.isNone=true->l=[]):=by
    generalize a.eval x=vx at hx;cases hx <;>grind
   have⟨ad,n,c,hvx,hl⟩:=hsl;cases op <;>simp only[aam]at he <;>first|exact absurd he.symm hr|subst he
   exact⟨ad.isNone,hl,W hvx ey (hg _ _ _) _ (by simp[Go.binOp,hq])⟩;exact⟨!ad.isNone,λh=>hl (by simpa using h),W hvx ey (hg _ _ _) _ (by simp[Go.binOp,hq])⟩
  rename_i b1 b2 _ _;have ex:=c8 hx;have ey:=c8 hy;have hg:(eqGuard op xt x y (.string b1) (.string b2)).run P w=.ok () w:=by simp_all [eqGuard]
  cases hb:Nat.beq (eK P xt i d).sc 2 with
  |false=>grind
  |true=>
   rw[hb]at he;cases op <;>simp only[SP]at he <;>first|exact absurd he.symm hr|subst he
   exact⟨_,W ex ey hg _ (by simp[Go.binOp,Op.stringOp,beq_toListBytes]),.v _⟩;exact⟨_,W ex ey hg _ (by simp[Go.binOp,Op.stringOp,beq_toListBytes,bne]),.v _⟩
  rename_i b1 b2 _ _;have ex:=c8 hx;have ey:=c8 hy;have hg:(eqGuard op xt x y (.bool b1) (.bool b2)).run P w=.ok () w:=by simp_all [eqGuard]
  cases hb:Nat.beq (eK P xt i d).sc 3 with
  |false=>grind
  |true=>
   have hc:=aok hb;have hdb:d=.bool:=by cases d <;>simp[eK,cN]at hc <;>rfl
   subst hdb;have heq:(Op.equal xt (.bool b1) (.bool b2)).run P w=.ok (b1==b2) w:=by exact run_equalIn_bool' w 9999 xt b1 b2 hd
   cases op <;>simp only[Lr]at he <;>first|exact absurd he.symm hr|subst he
   exact⟨_,W ex ey hg _ (by simp[Go.binOp,heq]),.v _⟩;exact⟨_,W ex ey hg _ (by simp[Go.binOp,heq,bne]),.v _⟩
  rename_i l m _ _;have⟨xs,ex,hxs⟩:=vr hx;have⟨ys,ey,hys⟩:=vr hy;unfold eqT adB at he;split at he
  grind
  rename_i c cs hcs;have hcs':Wd P xt d=c::cs:=hcs;cases hl:eqL (c::cs) l m with
  |none=>rw[hl]at he;exact absurd he.symm hr
  |some b=>
   rw[hl]at he;have hany:(Op.equal xt (.agg xs) (.agg ys)).run P w=.ok b w/\P.eqGuardType P.depth xt=false:=by
    grind [UG,Oe,Wd]
   have⟨q1,q2⟩:=hany;have hg:(eqGuard op xt x y (.agg xs) (.agg ys)).run P w=.ok () w:=run_eqGuard_agg w op xt x y xs ys q2;cases op <;>simp only[eqO]at he <;>first|exact absurd he.symm hr|subst he
   exact⟨_,W ex ey hg _ (by simp[Go.binOp,q1]),.v _⟩;exact⟨_,W ex ey hg _ (by simp[Go.binOp,q1]),.v _⟩
  grind
 |unOp op xt x=>
  change unS op (val _ x)=r at he;have hx:=X x;unfold unS at he;split at he
  rename_i b hs;subst he;rw[hs]at hx;have ex:=c8 hx;exact⟨_,by simp[execOp,ex];rfl,.v _⟩;rename_i k n hs;subst he;rw[hs]at hx;have ex:=c8 hx;exact⟨_,by simp only[execOp,ex];rfl,.v _⟩;grind
 |convert src dt x=>
  have⟨t1,ht1,he⟩:=cA (k:=λ_=>aO ts dt λti=>NS ti.int (val ⟨ts,ops,g,⟨t,h⟩,nx⟩ x)) E he hr;have⟨t2,ht2,he⟩:=cA E he hr;obtain⟨i1,d1,z1,hi1,hd1,hz1,hq1,rfl⟩:=ce ht1;obtain⟨i2,d2,z2,hi2,hd2,hz2,hq2,rfl⟩:=ce ht2;have hx:=X x;unfold NS at he;split at he
  rename_i kd k' n hk hs;subst he;rw[hs]at hx;have ex:=c8 hx;cases d2 <;>simp[eK]at hk;refine⟨_,?_,.v _⟩;simp_all [execOp,Go.convert,run_underlying,Conv.intToInt];grind
 |panic x=>
  change Wm (val _ x)=r at he;have hx:=X x;unfold Wm at he;split at he
  rename_i t' y hs;subst he;rw[hs]at hx;have ex:=c8 hx;simp[execOp,ex];rfl;grind
 |makeInterface V x=>
  have⟨ti,Y,he⟩:=cA (k:=λti=>bif ti.iface then .bad else F4 V (val ⟨ts,ops,g,⟨t,h⟩,nx⟩ x)) E he hr;obtain⟨i,d,z,hi,hd,hz,hq,rfl⟩:=ce Y;have hx:=X x;cases hif:(eK P V i d).iface with
  |true=>grind
  |false=>
   simp[hif]at he;unfold F4 at he;split at he
   rename_i k n hs;subst he;rw[hs]at hx;have ex:=c8 hx;refine⟨_,?_,.v _⟩;simp[execOp,ex];cases d <;>simp[eK]at hif <;>simp[Instr.makeInterface,run_underlying hd];grind
 |makeFunc fn first caps=>
  change NW fn (dO _ first.toList) (dO _ caps.toList)=r at he;unfold NW at he;split at he
  rename_i f;subst he;have⟨q1,q2⟩:=wi X caps;have⟨q3,q4⟩:=wi X first
  exact⟨.func (.func f) (first.map a.eval) (caps.map a.eval),by rfl,.fn q3 q1 q4 q2⟩;grind
 |fieldAddr V x f=>
  have⟨ti,Y,he⟩:=cA (k:=λti=>match nth ti.fields f with|some (o,n,_) =>bif Nat.ble 1 n then CW o (val ⟨ts,ops,g,⟨t,h⟩,nx⟩ x)else .bad|none=>.bad) E he hr;cases hf:nth ti.fields f with
  |none=>grind
  |some q=>
   have⟨o,n,q⟩:=q;simp[hf]at he;cases hn:Nat.ble 1 n with
   |false=>grind
   |true=>
    simp[hn]at he;obtain⟨s',rfl⟩:=Rc he hr;have⟨u,e1,e2⟩:=LL (P:=P) Y hf (nbl hn) (X x) he;exact⟨u,by simp_all [execOp],e2⟩
 |field V x f=>
  have⟨ti,Y,he⟩:=cA (k:=λti=>ue (nth ti.fields f) (I4 (val ⟨ts,ops,g,⟨t,h⟩,nx⟩ x))) E he hr;have hsh:∃ s',r=.val s':=by
   unfold ue at he;split at he
   have⟨s',_,e⟩:=pr he hr;grind;grind
  obtain⟨s',rfl⟩:=hsh;have⟨u,e1,e2⟩:=Uv (P:=P) Y (X x) he;exact⟨u,by simp_all [execOp],e2⟩
 |indexAddr V x i=>
  have⟨ti,Y,he⟩:=cA (k:=λti=>aO ts ti.elem λte=>jk ti te.size h (val ⟨ts,ops,g,⟨t,h⟩,nx⟩ x) (val ⟨ts,ops,g,⟨t,h⟩,nx⟩ i)) E he hr;have⟨te,hte,he⟩:=cA E he hr;obtain⟨c,s',rfl,hc⟩:=Uw (P:=P) hp Y hte (X x) (X i) he hr;intro hcc;have⟨u,e1,e2⟩:=hc hcc;simp_all [execOp]
 |extract x i=>
  have hx:=X x;change Wl i (val _ x)=r at he;generalize hvx:a.eval x=vx at hx;unfold Wl at he;split at he
  rename_i l hs;rw[hs]at hx;obtain⟨s',e1,rfl⟩:=pr he hr;rw[iu]at e1;cases hx with
  |tup q1 q2=>
   rename_i vs;have hlt:i<vs.size:=g6
   have:=q2 i s' e1;simp[aoP,apR hlt]at this;exact⟨vs[i],by simp[execOp,hvx,Instr.extract,hlt],this⟩
  grind
 |makeSlice V n c=>
  have⟨ti,Y,he⟩:=cA (k:=λti=>aO ts ti.elem λte=>bif ti.isSlice then(bif te.isSlice then aO ts te.elem λtr=>Ly nx te tr (val ⟨ts,ops,g,⟨t,h⟩,nx⟩ n) (val ⟨ts,ops,g,⟨t,h⟩,nx⟩ c)else mkS nx te (val ⟨ts,ops,g,⟨t,h⟩,nx⟩ n) (val ⟨ts,ops,g,⟨t,h⟩,nx⟩ c))else .bad) E he hr;have⟨te,hte,he⟩:=cA E he hr;cases hs:ti.isSlice with
  |false=>grind
  |true=>
   rw[hs]at he;cases hs2:te.isSlice with
   |true=>
    rw[hs2]at he;have⟨tr,htr,he⟩:=cA (k:=λtr=>Ly nx te tr (val ⟨ts,ops,g,⟨t,h⟩,nx⟩ n) (val ⟨ts,ops,g,⟨t,h⟩,nx⟩ c)) E he hr;exact wj (aaM (P:=P) hp hn Y hte hs (X n) (X c) he hr)
   |false=>
    rw[hs2]at he;exact wj (adY (P:=P) hp hn Y hte hs (X n) (X c) he hr)
 |slice V x lo hi mx=>
  cases mx with
  |some m=>
   have⟨ti,Y,he⟩:=cA (k:=λti=>aO ts ti.elem λ_=>F7 ti (pZ ⟨ts,ops,g,⟨t,h⟩,nx⟩ lo) (pZ ⟨ts,ops,g,⟨t,h⟩,nx⟩ hi) (val ⟨ts,ops,g,⟨t,h⟩,nx⟩ m) (val ⟨ts,ops,g,⟨t,h⟩,nx⟩ x)) E he hr;have⟨te,hte,he⟩:=cA E he hr;have⟨_,l2⟩:=BN X lo;have⟨l3,_⟩:=BN X hi;have⟨c,s',hc,h1⟩:=WK (P:=P) Y hte (X x) (X m) l2 l3 he hr;rcases hc with⟨rfl,hc⟩ |rfl;have⟨u,e1,e2⟩:=h1 hc;exact⟨u,by simp_all [execOp],e2⟩;intro hcc;have⟨u,e1,e2⟩:=h1 hcc;simp_all [execOp]
  |none=>
  have⟨ti,Y,he⟩:=cA (k:=λti=>aO ts ti.elem λte=>pc ti te.size nx h (pZ ⟨ts,ops,g,⟨t,h⟩,nx⟩ lo) (pZ ⟨ts,ops,g,⟨t,h⟩,nx⟩ hi) (J3 hi&&NU ops) (val ⟨ts,ops,g,⟨t,h⟩,nx⟩ x)) E he hr;have⟨te,hte,he⟩:=cA E he hr;have⟨l1,l2⟩:=BN X lo;have⟨l3,l4⟩:=BN X hi;rcases UJ (P:=P) hp hn Y hte (X x) l1 l2 l3 l4 (λq=>by cases hi with|none=>rfl|some _=>simp[J3]at q) he hr with⟨c,s',rfl,hc⟩ |he;intro hcc;have⟨u,e1,e2⟩:=hc hcc;simp_all [execOp];exact wj he
 |makeMap V rs=>
  cases rs with
  |some _=>exact absurd he.symm hr
  |none=>
  have⟨ti,Y,he⟩:=cA (k:=λti=>mmR nx ti.mkt ti.mvt) E he hr;unfold mmR at he;split at he
  subst he;intro _;refine⟨trivial,.map (some w.heap.size),own.set nx ⟨none,.map (some w.heap.size),[],[w.heap.size]⟩,w.alloc (.map #[] 0),.inl (by rfl),?_,?_⟩;have:=Rel.os (F:=F) (own:=own.set nx ⟨none,.map (some w.heap.size),[],[w.heap.size]⟩) (w:=w.alloc (.map #[] 0)) (Own.ar_ _ _ _) rfl;exact this;exact wb hp hn (w1:=w) ⟨rfl,rfl,rfl,rfl⟩ _ _ _ rfl λee g=>⟨w.heap.size,#[],0,rfl,rfl,lW _ _,⟨rfl,λi x hx=>by simp[fT]at hx⟩,⟨by simp[lX],λn hn=>by simp[lX]at hn⟩,trivial⟩;grind
 |lookup V m k ok=>
  have⟨ti,Y,he⟩:=cA (k:=λti=>ve ti h ok (val ⟨ts,ops,g,⟨t,h⟩,nx⟩ k) (val ⟨ts,ops,g,⟨t,h⟩,nx⟩ m)) E he hr;obtain⟨s',rfl,u,e1,e2⟩:=WN (P:=P) hp Y (X m) (X k) he hr;exact⟨u,by simp_all [execOp],e2⟩
 |mapUpdate V m k v=>
  have⟨ti,Y,he⟩:=cA (k:=λti=>EO ti h (val ⟨ts,ops,g,⟨t,h⟩,nx⟩ k) (val ⟨ts,ops,g,⟨t,h⟩,nx⟩ v) (val ⟨ts,ops,g,⟨t,h⟩,nx⟩ m)) E he hr;obtain⟨ups,rfl,w',e1,e2⟩:=Ta (P:=P) hp Y (X m) (X k) (X v) he hr;exact λ_=>⟨trivial,undef,own,w',.inr ⟨by simp[execOp,e1],rfl⟩,.any _,e2⟩
 |insert V m k v=>
  have⟨ti,Y,he⟩:=cA (k:=λti=>EO ti h (val ⟨ts,ops,g,⟨t,h⟩,nx⟩ k) (val ⟨ts,ops,g,⟨t,h⟩,nx⟩ v) (val ⟨ts,ops,g,⟨t,h⟩,nx⟩ m)) E he hr;obtain⟨ups,rfl,w',e1,e2⟩:=Ta (P:=P) hp Y (X m) (X k) (X v) he hr;exact λ_=>⟨trivial,undef,own,w',.inr ⟨by simp[execOp,e1],rfl⟩,.any _,e2⟩
 |mapEntry V m k=>
  have⟨ti,Y,he⟩:=cA (k:=λti=>Bx ti nx h (val ⟨ts,ops,g,⟨t,h⟩,nx⟩ k) (val ⟨ts,ops,g,⟨t,h⟩,nx⟩ m)) E he hr;exact wj (aaK (P:=P) hp hn Y (X m) (X k) he hr)
 |entryStore V m s v=>
  have⟨ti,Y,he⟩:=cA (k:=λti=>Lz ti h (val ⟨ts,ops,g,⟨t,h⟩,nx⟩ v) (val ⟨ts,ops,g,⟨t,h⟩,nx⟩ m) (val ⟨ts,ops,g,⟨t,h⟩,nx⟩ s)) E he hr;obtain⟨c,ups,rfl,hc⟩:=aaL (P:=P) hp Y (X m) (X s) (X v) he hr;intro hcc;have⟨w',e1,e2⟩:=hc hcc;exact⟨trivial,undef,own,w',.inr ⟨by simp[execOp,e1],rfl⟩,.any _,e2⟩
 |typeAssert x xt V ok=>
  obtain⟨ti,Y,he⟩:=cA (k:=λti=>taS V ok ti (val ⟨ts,ops,g,⟨t,h⟩,nx⟩ x)) E he hr;obtain⟨i,d,z,hi,hd,hz,hq,rfl⟩:=ce Y;have hx:=X x;unfold taS at he;split at he
  rename_i t' y hs;rw[hs]at hx;have ex:=c8 hx;cases hif:(eK P V i d).iface with
  |true=>grind
  |false=>
   rw[hif]at he;simp only[cond_false]at he;cases hb:Nat.beq t' V with
   |false=>grind
   |true=>
    rw[hb]at he;simp only[cond_true]at he;have htt:=aok hb;have hrr:r=(bif ok then .val (.tup [.v y,.b true])else .val (.v y)):=he.symm;subst htt;have W:(Instr.typeAssert (.iface t' y) xt t' ok).run P w=.ok (if ok then .tuple #[y,.bool true]else y) w:=by
     cases d <;>simp[eK]at hif <;>cases ok <;>simp[Instr.typeAssert,run_underlying hd]
    rw[hrr];clear hrr;cases ok with
    |false=>exact⟨y,by simp_all [execOp],.v _⟩
    |true=>
     refine⟨.tuple #[y,.bool true],by simp_all [execOp],.tup rfl λj s hj=>?_⟩;cases j with
     |zero=>simp at hj;subst hj;exact .v _
     |succ j=>
      cases j with
      |zero=>simp at hj;subst hj;exact .v _|succ j=>simp at hj
  grind
 |call c=>
  obtain⟨callee,args,tys⟩:=c;cases callee with
  |value f=>
   have hf:=X f;change Bv (dO _ args.toList) (val _ f)=r at he;generalize hvf:a.eval f=vf at hf;unfold Bv at he;split at he
   rename_i fid first caps hs
   subst he;rw[hs]at hf;cases hf with
   |fn q1 q2 q3 q4=>
    rename_i us vs;have⟨p1,p2⟩:=wi X args;refine⟨us++args.map a.eval++vs,ar7.app (ar7.app ⟨q1,q3⟩ ⟨p1,p2⟩) ⟨q2,q4⟩,?_⟩;simp[execOp,resolve,hvf,Deferred.ofValue,invoke]
   rename_i id hs;subst he;rw[hs]at hf;obtain⟨hd,h1,rfl,h2⟩:=jz hf;exact⟨hd,h1,args.map a.eval,wi X args,by simp[execOp,resolve,hvf,UO]⟩;grind
  |invoke f m=>exact absurd he.symm hr
  |builtin b=>
   have⟨p1,p2⟩:=wi X args;have W:∀ (b:Builtin),(execOp a.eval { dst:=dst,op:=.call ⟨.builtin b,args,tys⟩,type:=ty,pos:=pos,after:=after,guard:=guard})=builtin b tys ty (args.map λ| .const _=>true|_=>false) (args.map a.eval):=λb=>rfl;cases b <;>first|(exact absurd he.symm hr) |skip
   ·
    change (match tys.toList with| [t',t2] =>aO ts t' λti=>aO ts t2 λti2=>aO ts ti.elem λte=>bif ti.isSlice&&ti2.isSlice then nU te nx h (dO _ args.toList)else .bad|_=>.bad)=r at he;split at he
    rename_i t' t2 htys;have⟨ti,Y,he⟩:=cA E he hr;have⟨ti2,ht2,he⟩:=cA E he hr;have⟨te,hte,he⟩:=cA E he hr;cases hs:ti.isSlice&&ti2.isSlice with
    |false=>grind
    |true=>
     rw[hs]at he;rw[aoj]at hs;have htys':tys= #[t',t2]:=g6
     have:=aaH (P:=P) (ty:=ty) hp hn Y ht2 hte hs.1 hs.2 ⟨p1,p2⟩ he hr;grind [wj,builtin]
    grind
   ·
    change (match tys.toList with| [t'] =>aO ts t' λti=>aO ts ti.elem λte=>AG ti te h (dO _ args.toList) |_=>.bad)=r at he;split at he
    rename_i t' htys;have⟨ti,Y,he⟩:=cA E he hr;have⟨te,hte,he⟩:=cA E he hr;have htys':tys= #[t']:=g6
    have:=aaN (P:=P) hp Y hte ⟨p1,p2⟩ he hr ty;grind [wj,builtin]
    grind
   ·
    change (match tys.toList with|t'::_=>aO ts t' λti=>AH ti h (dO _ args.toList) |_=>.bad)=r at he;split at he
    rename_i t' rest htys;have⟨ti,Y,he⟩:=cA E he hr;have hty0:tys[0]? =some t':=by rw[<-aqA,htys];rfl
    obtain⟨ups,rfl,u,w',e1,e2⟩:=aaJ (P:=P) hp Y ⟨p1,p2⟩ he hr hty0 ty;intro _;refine⟨trivial,u,own,w',.inl ?_,.any _,e2⟩;simp_all [builtin];grind
   ·
    change (match tys.toList with| [t'] =>aO ts t' λti=>vM ti h (dO _ args.toList) |_=>.bad)=r at he;split at he
    rename_i t' htys;have⟨ti,Y,he⟩:=cA E he hr;have htys':tys= #[t']:=g6
    have⟨n,hn',hl⟩:=aaI (P:=P) (ty:=ty) hp Y ⟨p1,p2⟩ he hr;have hfin:(execOp a.eval { dst:=dst,op:=.call ⟨.builtin .len,args,tys⟩,type:=ty,pos:=pos,after:=after,guard:=guard}).run P w=.ok (.value (.int .i64 n)) w:=by
     simp_all [builtin]
    rcases hn' with⟨c,rfl,hc⟩ |rfl;exact⟨hc,_,hfin,.v _⟩;exact⟨_,hfin,.v _⟩;grind
   change Lx (dO _ args.toList)=r at he;unfold Lx at he;split at he
   rename_i k x k' y hvl;subst he;rw[hvl]at p1 p2;have h0:=p2 0 _ rfl;have h1:=p2 1 _ rfl;generalize hgv:args.map a.eval=vs at *;have⟨l⟩:=vs;match l,p1 with
   | [u,v],_=>
    have e0:=c8 h0;have e1:=c8 h1;exact⟨_,by simp_all [builtin,Builtin.max_,Builtin.max2],.v _⟩
   grind
   change Lw (dO _ args.toList)=r at he;unfold Lw at he;split at he
   rename_i k x k' y hvl;subst he;rw[hvl]at p1 p2;have h0:=p2 0 _ rfl;have h1:=p2 1 _ rfl;generalize hgv:args.map a.eval=vs at *;have⟨l⟩:=vs;match l,p1 with
   | [u,v],_=>
    have e0:=c8 h0;have e1:=c8 h1;exact⟨_,by simp_all [builtin,Builtin.min_,Builtin.min2],.v _⟩
   grind
 |range V x=>
  have⟨ti,Y,he⟩:=cA (k:=λti=>LA ti nx h (val ⟨ts,ops,g,⟨t,h⟩,nx⟩ x)) E he hr;have hvx:=X x;generalize val ⟨ts,ops,g,⟨t,h⟩,nx⟩ x=sx at he hvx;unfold LA at he;split at he
  rename_i id;have⟨hdd,h1,hv1,h2⟩:=jz hvx;cases ho:ap h id with
  |mp kk vk l asE=>
   rw[ho]at he;simp[aay]at he;cases hc:mP kk ti.mkt&&mP vk ti.mvt&&noE asE with
   |false=>grind
   |true=>
     rw[hc]at he;simp[aoj]at hc;subst he;have⟨kt,e,q1,_⟩:=AL Y (o4 hc.1.1) (o4 hc.1.2);have⟨hd',e0,bm,es,clk,m1,m2,m3,m4,m5,_⟩:=hp.at ho rfl;rw[h1]at e0;cases e0;rw[lJ hc.2]at m4;have hes:es.size=l.length:=m4.1;have hidn:id≠nx:=λe=>by rw[e,hn.none]at h1;cases h1
     intro _;refine⟨trivial,.pointer (some ⟨w.heap.size,0,none⟩),own.set nx ⟨some w.heap.size,undef,stV (lX es) clk,[w.heap.size]⟩,w.alloc (.mapIter (some bm) clk #[] clk),.inl ?_,.ptr (Own.ar_ _ _ _) rfl,?_⟩;have:=run_range_map (P:=P) w V kt e bm es clk q1 m3;simp_all [execOp];have s1:=wb hp hn (w1:=w) ⟨rfl,rfl,rfl,rfl⟩ (.mapIter (some bm) clk #[] clk) (.mi (some id) l.length (List.range l.length) none) ⟨some w.heap.size,undef,stV (lX es) clk,[w.heap.size]⟩ rfl λee g=>⟨w.heap.size,rfl,rfl,λi hi=>by
      cases hi;have⟨hd2,k1,k2⟩:=g.ids _ _ h1;have hbl:(lX es).length=l.length:=by simp[lX,hes]
      refine⟨hd2,bm,#[],clk,lX es,k1,k2.2.1.trans m1,lW _ _,rfl,hbl,List.nodup_range,λk=>?_,λj hj=>by cases hj⟩;grind⟩
     have go:(own.set nx ⟨some w.heap.size,undef,stV (lX es) clk,[w.heap.size]⟩) id=some hdd:=by grind [Own.asg]
     have s2:=J5 s1.hp go (.mp kk vk l (some (nx,none))) ⟨bm,es,clk,m1,m2,by grind [sb],m4.carry s1.fr.asx.asr,m5,_,Own.ar_ _ _ _,rfl⟩;refine⟨s2.hp,s1.fr.trans s2.fr,λj hj hd=>?_⟩;have hd2:d_ (ap (cW (cW h nx (.mi (some id) l.length (List.range l.length) none)) id (.mp kk vk l (some (nx,none)))) j)=true:=hd;rw[dU,dU]at hd2;by_cases e:j=nx
     subst e;rw[if_neg hidn,if_pos rfl]at hd2;cases hd2;grind [Own.asg]
  |_=>rw[ho]at he;exact absurd he.symm hr
  grind
 |next it isS=>
  cases isS with
  |true=>exact absurd he.symm hr
  |false=>
   have hvx:=X it;change Wr (val ⟨ts,ops,g,⟨t,h⟩,nx⟩ it)=r at he;generalize val ⟨ts,ops,g,⟨t,h⟩,nx⟩ it=sx at he hvx;unfold Wr at he;split at he
   rename_i id;subst he;have key:∀ v,Rel F own w (.ptr id 0) v->∃ hd b,own id=some hd/\hd.p=some b/\v=.pointer (some ⟨b,0,none⟩):=λv h=>by
    cases h <;>grind
   have⟨hd,b,e1,e2,hev⟩:=key _ hvx;refine⟨hd,b,e1,e2,ty,λu w' W=>?_⟩;simp_all [execOp];grind
 |entry it=>
  have hvx:=X it;change D_ h (val ⟨ts,ops,g,⟨t,h⟩,nx⟩ it)=r at he;generalize val ⟨ts,ops,g,⟨t,h⟩,nx⟩ it=sx at he hvx;unfold D_ at he;split at he
  ·rename_i id;cases ho:ap h id with
   |mi mid n left cur=>
    rw[ho]at he;unfold SY at he;split at he
    ·rename_i mid' n' left' j hob;cases hob;cases hm:ap h mid' with
     |mp kk vk l asE=>
      rw[hm]at he;cases asE with
      |none=>exact absurd he.symm hr
      |some q=>
      have⟨it,q⟩:=q;cases q with
      |some _=>exact absurd he.symm hr
      |none=>
      simp only[Ws]at he;cases hbi:Nat.beq it id with
      |false=>grind
      |true=>
       rw[hbi]at he;have hit:=aok hbi;subst he;rintro⟨hn0,hj⟩;have key:∀ v,Rel F own w (.ptr id 0) v->∃ hd b,own id=some hd/\hd.p=some b/\v=.pointer (some ⟨b,0,none⟩):=λv h=>by
        cases h <;>grind
       have⟨hd,b,e1,e2,hev⟩:=key _ hvx;have⟨hd',e1',b',p1,p2,p3⟩:=hp.at ho rfl;rw[e1]at e1';cases e1';have⟨hdm,bm,seen,c0,ss,k1,k2,k3,k4,k5,k6,k7,k8⟩:=p3 _ rfl;have⟨s8,hs8,hs⟩:=k8 j rfl;have⟨hdm',k1',bm',es,clk,m1,m2,m3,m4,m5,hd2,t1,t2⟩:=hp.at hm rfl;rw[k1]at k1';cases k1';rw[k2]at m1;cases m1;rw[hit,e1]at t1;cases t1;have⟨hc0,hss⟩:=S5 (k4.symm.trans t2);subst hc0;have⟨en,f1,f2,f3,f4⟩:=m4.2 j l[j] (by simp[fT]);have hen:s8=en.born:=by
        grind [lX]
       subst hen;have hseen:seen=seen.pop.push en.born:=by
        obtain⟨xs,rfl⟩:=Array.back?_eq_some_iff.1 hs;simp
       have W:=I8 (P:=P) (w:=w) (b:=b) (bm:=bm) (since:=c0) (clock:=c0) (seen:=seen.pop) (es:=es) (e:=en) g6 m3 g6 m5.1;refine⟨.tuple #[en.key,en.val],by simp[execOp,hev,W],.tup rfl λk s hk=>?_⟩;have hgd:l.getD j (fg kk,fg vk)=l[j]:=g6
       rw[hgd]at hk;match k,hk with
       |0,hk=>cases hk;exact f3|1,hk=>cases hk;exact f4
     |_=>rw[hm]at he;exact absurd he.symm hr
    grind
   |_=>rw[ho]at he;exact absurd he.symm hr
  grind
 |_=>exact absurd he.symm hr
end
end Go.Sx
end
