/- Part of the proof that the law ClaimsSpec returns true and leaves its arguments as they were, for all arguments of bulk at most 1048576 (the Upto form). -/
import Derived.Test.YtgdkdhdlfdcefaaGreatC112
import Derived.Test.YtgdkdhdlfdcefaaGreatC111
import Derived.Test.YtgdkdhdlfdcefaaGreatC109
set_option linter.all false
set_option maxHeartbeats 4000000
set_option maxRecDepth 100000
section
namespace Go.Sx
open Go.Proofs
open IntKind (i64)
theorem Ft:∀ n,Qk n (mJ n).1 (mJ n).2
 |0=>fun A U V C hU hV h=>absurd (List.length_pos_iff.2 hU) (by omega)
 |n+1=>fun A U V C hU hV hN hl sU sV=>by
  have pU:=List.length_pos_iff.2 hU;have pV:=List.length_pos_iff.2 hV;by_cases h1:U.length=1
  ·obtain⟨x,rfl⟩:=List.length_eq_one_iff.1 h1;exact Hi _ _ A V C x hl sV
  ·by_cases h2:V.length=1
   ·obtain⟨x,rfl⟩:=List.length_eq_one_iff.1 h2;exact Fq _ _ A U C x (by omega) hl sU
   ·exact Hj (Ft n) A U V C (by omega) (by omega) hN hl sU sV
theorem Mq (A U V C:List Deed)(hU:U≠[])(hV:V≠[])(hl:(A++U++V++C).length<2 ^ 60)(sU:Srt U)(sV:Srt V):
  bQ (A.length:Int) ((A.length+U.length:Nat):Int) ((A.length+U.length+V.length:Nat):Int) (A++U++V++C)∧
  ∃ M,bZ (A.length:Int) ((A.length+U.length:Nat):Int) ((A.length+U.length+V.length:Nat):Int) (A++U++V++C)=A++M++C∧SameF (U++V) M∧Srt M∧M.length=U.length+V.length:=
 Ft ((A++U++V++C).length+1) A U V C hU hV (by simp only[List.length_append];omega) hl sU sV
inductive Blk (n:Nat):List Deed→Prop
 |last {l:List Deed}:l.length≤n→Srt l→Blk n l
 |cons {b l:List Deed}:b.length=n→Srt b→Blk n l→Blk n (b++l)
inductive Full (n:Nat):List Deed→Prop
 |nil:Full n []
 |snoc {l b:List Deed}:Full n l→b.length=n→Srt b→Full n (l++b)
theorem Full.app {n:Nat}{a:List Deed}(h:Full n a):∀ {l:List Deed},Blk n l→Blk n (a++l):=by
 induction h with
 |nil=>exact fun h=>h
 |snoc _ hb hs ih=>exact fun h=>by rw[List.append_assoc];exact ih (.cons hb hs h)
theorem Blk.srt {n:Nat}{l:List Deed}(h:Blk n l)(hl:l.length≤n):Srt l:=by
 cases h with
 |last _ hs=>exact hs
 | @cons b r hb hs h=>
  rw[List.length_append]at hl;have:=List.eq_nil_of_length_eq_zero (show r.length=0 by omega);subst this;simpa using hs
theorem Blk.split {n:Nat}{l:List Deed}(h:Blk n l)(hl:n≤l.length):∃ b r,l=b++r∧b.length=n∧Srt b∧Blk n r:=by
 cases h with
 |last h1 hs=>exact⟨l,[],by simp,by omega,hs,.last (Nat.zero_le _) List.Pairwise.nil⟩
 |cons hb hs h=>exact⟨_,_,rfl,hb,hs,h⟩
theorem qA {a b:List Deed}(h:SameF a b):a.length=b.length:=by
 have e:∀ {l:List Deed},stS l=l∨True:=fun {_} =>.inr trivial;have h1:∀ l:List Deed,(stS l).length=l.length:=fun l=>by
  induction l with
  |nil=>rfl
  |cons x r ih=>
   have:∀ l:List Deed,(stI x l).length=l.length+1:=fun l=>by
    induction l with
    |nil=>rfl
    |cons y l ih2=>
     unfold stI;by_cases hc:x.at_≤y.at_
     ·rw[if_pos hc];simp
     ·rw[if_neg hc];simp[ih2]
   show(stI x (stS r)).length=_;rw[this,ih];rfl
 rw[←h1 a,←h1 b,uX (h.trans (sW b)) (DE b)]
theorem Cf (l:List Deed)(hl:l.length<2 ^ 58):bH (l.length:Int) l∧bR (l.length:Int) l=stS l:=by
 obtain⟨k1,r,k2,D,R,rfl,k3,k4,k5,k6⟩:okI (aO (l.length:Int)) (ci (l.length:Int)) (Int.toNat (l.length:Int)+1) 0 (l,0,20)∧∃ r,am (aO (l.length:Int)) (Int.toNat (l.length:Int)+1) 0 (l,0,20)=.inl r∧∃ D R,r=(((D.length:Nat):Int),D++R)∧Full 20 D∧SameF l (D++R)∧R.length<20∧l.length=D.length+R.length:=by
  refine wi (fun s:List Deed×Int×Int=>((l.length:Int) - s.2.1).toNat) (fun s:List Deed×Int×Int=>∃ D R,s=(D++R,((D.length:Nat):Int),((D.length+20:Nat):Int))∧Full 20 D∧SameF l (D++R)∧l.length=D.length+R.length) _ ?_ _ _ _ ⟨[],l,rfl,.nil,SameF.refl _,by simp⟩ (by simp only[Int.toNat_natCast];omega);rintro k s ⟨D,R,rfl,hD,hF,hlen⟩;unfold ci aO;by_cases h:20≤R.length
  ·have e:decide (((D.length+20:Nat):Int)≤(l.length:Int))=true:=by rw[decide_eq_true_eq];omega
   have hRs:R.take 20++R.drop 20=R:=List.take_append_drop _ _;have hRt:(R.take 20).length=20:=by rw[List.length_take];omega
   have hRd:(R.drop 20).length=R.length - 20:=List.length_drop;have hi:=Ce D (R.take 20) (R.drop 20) (by simp only[List.length_append];omega);rw[List.append_assoc D,hRs,hRt]at hi;obtain⟨i1,M,i2,i3,i4⟩:=hi;have hM:=qA i3;have w:i64.wrap (((D.length+20:Nat):Int)+20)=(((D++M).length+20:Nat):Int):=by rw[aP (by omega) (by omega),List.length_append];omega
   simp only[e,cond_true,w];refine⟨fun _=>i1,.inr ⟨_,rfl,by simp only;omega,D++M,R.drop 20,?_,hD.snoc (by omega) i4,?_,by rw[List.length_append];omega⟩⟩
   ·rw[i2];have:((D.length+20:Nat):Int)=(((D++M).length:Nat):Int):=by rw[List.length_append];omega
    rw[this]
   ·refine hF.trans ?_;have:=((SameF.refl D).app (i3.app (SameF.refl (R.drop 20))));rw[hRs]at this;simpa using this
  ·have e:decide (((D.length+20:Nat):Int)≤(l.length:Int))=false:=by rw[decide_eq_false_iff_not];omega
   simp only[e,cond_false];exact⟨(fun h=>by cases h),.inl ⟨_,rfl,D,R,rfl,hD,hF,by omega,hlen⟩⟩
 have hi:=Ce D R [] (by simp only[List.length_append,List.length_nil];omega);have eN:((D.length+R.length:Nat):Int)=(l.length:Int):=by omega
 rw[List.append_nil,eN]at hi;obtain⟨i1,M,i2,i3,i4⟩:=hi;rw[List.append_nil]at i2;have hM:=qA i3;have hB0:Blk 20 (D++M):=k3.app (.last (by omega) i4);have hF0:SameF l (D++M):=k4.trans ((SameF.refl D).app i3);obtain⟨m1,r,m2,m3,m4⟩:okI (bi (l.length:Int)) (bN (l.length:Int)) (Int.toNat (l.length:Int)+1) 0 (D++M,20)∧∃ r,am (bi (l.length:Int)) (Int.toNat (l.length:Int)+1) 0 (D++M,20)=.inl r∧SameF l r∧Srt r:=by
  refine wi (fun s:List Deed×Int=>((l.length:Int) - s.2).toNat) (fun s:List Deed×Int=>∃ (L:List Deed) (n:Nat),s=(L,(n:Int))∧20≤n∧n<2 ^ 59∧Blk n L∧SameF l L) _ ?_ _ _ _ ⟨D++M,20,rfl,Nat.le_refl _,by omega,hB0,hF0⟩ (by simp only[Int.toNat_natCast];omega);rintro k s ⟨L,n,rfl,hn,hn2,hB,hF⟩;have hLl:=qA hF;by_cases h:n<l.length
  ·have e:decide ((n:Int) < (l.length:Int))=true:=by rw[decide_eq_true_eq];omega
   have w2:i64.wrap (2*(n:Int))=((2*n:Nat):Int):=by rw[aP (by omega) (by omega)];omega
   have w2':i64.wrap ((n:Int)*2)=((2*n:Nat):Int):=by rw[aP (by omega) (by omega)];omega
   obtain⟨p1,r,p2,D,R,rfl,p3,p4,p5,p6,p7⟩:okI (bh (l.length:Int) (L,(n:Int))) (cj (l.length:Int) (L,(n:Int))) (Int.toNat (l.length:Int)+1) 0 (L,0,((2*n:Nat):Int))∧∃ r,am (bh (l.length:Int) (L,(n:Int))) (Int.toNat (l.length:Int)+1) 0 (L,0,((2*n:Nat):Int))=.inl r∧∃ D R,r=(((D.length:Nat):Int),D++R)∧Full (2*n) D∧Blk n R∧SameF l (D++R)∧R.length<2*n∧l.length=D.length+R.length:=by
    refine wi (fun s:List Deed×Int×Int=>((l.length:Int) - s.2.1).toNat) (fun s:List Deed×Int×Int=>∃ D R,s=(D++R,((D.length:Nat):Int),((D.length+2*n:Nat):Int))∧Full (2*n) D∧Blk n R∧SameF l (D++R)∧l.length=D.length+R.length) _ ?_ _ _ _ ⟨[],L,by simp,.nil,hB,hF,by simpa using hLl⟩ (by simp only[Int.toNat_natCast];omega);rintro k s ⟨D,R,rfl,hD,hR,hF,hlen⟩;unfold cj bh;by_cases h:2*n≤R.length
    ·have e:decide (((D.length+2*n:Nat):Int)≤(l.length:Int))=true:=by rw[decide_eq_true_eq];omega
     obtain⟨B1,R1,rfl,b1,b2,b3⟩:=hR.split (by omega);rw[List.length_append]at h hlen;obtain⟨B2,R2,rfl,c1,c2,c3⟩:=b3.split (by omega);rw[List.length_append]at h hlen;obtain⟨i1,M,i2,i3,i4,i5⟩:=Mq D B1 B2 R2 (by rw[←List.length_pos_iff];omega) (by rw[←List.length_pos_iff];omega) (by simp only[List.length_append];omega) b2 c2;have e0:D++B1++B2++R2=D++(B1++(B2++R2)):=by simp
     have e1:((D.length+B1.length+B2.length:Nat):Int)=((D.length+2*n:Nat):Int):=by omega
     have e2:i64.wrap ((D.length:Int)+(n:Int))=((D.length+B1.length:Nat):Int):=by rw[aP (by omega) (by omega)];omega
     rw[e0,e1]at i1 i2;have w:i64.wrap (((D.length+2*n:Nat):Int)+((2*n:Nat):Int))=(((D++M).length+2*n:Nat):Int):=by rw[aP (by omega) (by omega),List.length_append];omega
     simp only[e,cond_true,e2,w2,w];refine⟨fun _=>i1,.inr ⟨_,rfl,by simp only;omega,D++M,R2,?_,hD.snoc (by omega) i4,c3,?_,by rw[List.length_append];omega⟩⟩
     ·rw[i2];have:((D.length+2*n:Nat):Int)=(((D++M).length:Nat):Int):=by rw[List.length_append];omega
      rw[this]
     ·refine hF.trans ?_;have:=(SameF.refl D).app (i3.app (SameF.refl R2));simpa using this
    ·have e:decide (((D.length+2*n:Nat):Int)≤(l.length:Int))=false:=by rw[decide_eq_false_iff_not];omega
     simp only[e,cond_false];exact⟨(fun h=>by cases h),.inl ⟨_,rfl,D,R,rfl,hD,hR,hF,by omega,hlen⟩⟩
   have wm:i64.wrap ((D.length:Int)+(n:Int))=((D.length+n:Nat):Int):=by rw[aP (by omega) (by omega)];omega
   unfold bN bi;simp only[e,cond_true,w2,w2',p2,wm];by_cases hm:n<R.length
   ·have em:decide (((D.length+n:Nat):Int) < (l.length:Int))=true:=by rw[decide_eq_true_eq];omega
    obtain⟨B1,R1,rfl,b1,b2,b3⟩:=p4.split (by omega);rw[List.length_append]at hm p6 p7;have b4:=b3.srt (by omega);obtain⟨i1,M,i2,i3,i4,i5⟩:=Mq D B1 R1 [] (by rw[←List.length_pos_iff];omega) (by rw[←List.length_pos_iff];omega) (by simp only[List.length_append,List.length_nil];omega) b2 b4;have e0:D++B1++R1++[]=D++(B1++R1):=by simp
    have e1:((D.length+B1.length+R1.length:Nat):Int)=(l.length:Int):=by omega
    have e2:((D.length+B1.length:Nat):Int)=((D.length+n:Nat):Int):=by omega
    rw[e0,e1,e2]at i1 i2;rw[List.append_nil]at i2;refine⟨fun _=>⟨p1,(fun z h=>by cases h),fun x hx=>by cases hx;simp only[wm];exact fun _=>i1⟩,.inr ⟨(D++M,((2*n:Nat):Int)),by simp only[em,cond_true];rw[i2],by simp only;omega,D++M,2*n,rfl,by omega,by omega,p3.app (.last (by omega) i4),p5.trans ((SameF.refl D).app i3)⟩⟩
   ·have em:decide (((D.length+n:Nat):Int) < (l.length:Int))=false:=by rw[decide_eq_false_iff_not];omega
    refine⟨fun _=>⟨p1,(fun z h=>by cases h),fun x hx=>by cases hx;simp only[wm,em];exact fun h=>by cases h⟩,.inr ⟨(D++R,((2*n:Nat):Int)),by simp only[em,cond_false],by simp only;omega,D++R,2*n,rfl,by omega,by omega,p3.app (.last (by omega) (p4.srt (by omega))),p5⟩⟩
  ·have e:decide ((n:Int) < (l.length:Int))=false:=by rw[decide_eq_false_iff_not];omega
   unfold bN bi;simp only[e,cond_false];exact⟨(fun h=>by cases h),.inl ⟨_,rfl,hF,hB.srt (by omega)⟩⟩
 unfold bH bR;rw[k2];simp only[i2,m2];exact⟨⟨k1,(fun z h=>by cases h),fun x hx=>by cases hx;simp only[i2];exact⟨i1,m1,fun z h=>by rw[m2]at h;cases h⟩⟩,uX m3 m4⟩
theorem Fu (l:List Deed)(hl:l.length<2 ^ 58):ba l∧br l=stS l:=⟨fun _=>(Cf l hl).1,(Cf l hl).2⟩
theorem Fv:∀ (l:List Deed) (n:Int),rS .int .deed (pH l) n=l.any fun y=>y.no==n:=fun l n=>by
 have:∀ (r:List Deed),rS .int .deed (pH r.reverse) n=r.reverse.any fun y=>y.no==n:=fun r=>by
  induction r with
  |nil=>rfl
  |cons x r ih=>
   rw[List.reverse_cons,tw,JM,ih,List.any_append];simp only[List.any_cons,List.any_nil,Bool.or_false];rw[Bool.or_comm];congr 1
   by_cases h:n=x.no
   ·subst h;simp
   ·have:¬x.no=n:=fun e=>h e.symm;simp[h,this]
 simpa using this l.reverse
theorem sX {l:List Deed}(h:Asc l){y:Deed}(hy:y∈l):b9 .int .deed (pH l) y.no=y:=by
 have:∀ (r:List Deed),Asc r.reverse→∀ y∈r,b9 .int .deed (pH r.reverse) y.no=y:=fun r=>by
  induction r with
  |nil=>simp
  |cons x r ih=>
   intro hA y hy;rw[List.reverse_cons]at hA ⊢;obtain⟨a1,_,a3⟩:=List.pairwise_append.1 hA;rw[tw,kU];rcases List.mem_cons.1 hy with rfl|hy
   ·rw[if_pos rfl]
   ·have:=a3 y (by simpa using hy) x (by simp);rw[if_neg (show ¬y.no=x.no by omega)];exact ih a1 y hy
 simpa using this l.reverse (by simpa using h) y (by simpa using hy)
structure Fit (d:District)(x:Deed):Prop where
 no0:0≤x.no
 no1:x.no≤1048576
 at0:0≤x.at_
 at1:x.at_≤4096
 kn0:0≤x.known
 kn1:x.known≤1048576
 kind:x.kind=1∨x.kind=2∨x.kind=3∨x.kind=4
 held:x.kind≠4→0≤x.right∧x.right< (d.rights.length:Int)∧(d.rights.getD (Int.toNat x.right) default).kind=1∧0≤x.since∧x.since< (d.farms.length:Int)
 pass:x.kind=1→0≤x.to∧x.to< (d.farms.length:Int)∧x.to≠x.since
 split:x.kind=2→PartsOk d x.parts
theorem Mr {d:District}{m:List (Int×Deed)}{x:Deed}(hf:d.farms.length≤600)(hr:d.rights.length≤256)(h:b_ d m x=true):Fit d x∧(x.kind=4→rS .int .deed m x.of_=true∧(b9 .int .deed m x.of_).kind≠4∧(b9 .int .deed m x.of_).known≤x.known):=by
 unfold b_ at h;cases h0:((((!(aq x.no 0 1048576)) ||(!(aq x.at_ 0 4096))) ||(!(aq x.known 0 1048576))) ||(!(iv x)))with
 |true=>rw[h0]at h;cases h
 |false=>
  rw[h0]at h;simp only[Bool.or_eq_false_iff,Bool.not_eq_false']at h0;obtain⟨⟨⟨a1,a2⟩,a3⟩,a4⟩:=h0;rw[rb]at a1 a2 a3;simp only[cond_false]at h;by_cases k1:x.kind=1
  ·rw[show(x.kind==1)=true by simp[k1]]at h;simp only[cond_true,Bool.and_eq_true,beq_iff_eq,bne_iff_ne]at h;obtain⟨⟨⟨⟨b1,b2⟩,b3⟩,b4⟩,b5⟩:=h;rw[sL _ (by omega)]at b1 b3 b4;exact⟨⟨a1.1,a1.2,a2.1,a2.2,a3.1,a3.2,.inl k1,fun _=>⟨b1.1,b1.2,b2,b3.1,b3.2⟩,fun _=>⟨b4.1,b4.2,b5⟩,fun e=>by omega⟩,fun e=>by omega⟩
  ·rw[show(x.kind==1)=false by simpa using k1]at h;by_cases k2:x.kind=2
   ·rw[show(x.kind==2)=true by simp[k2]]at h;simp only[cond_true,cond_false,Bool.and_eq_true,beq_iff_eq]at h;obtain⟨⟨⟨b1,b2⟩,b3⟩,b4⟩:=h;rw[sL _ (by omega)]at b1 b3;exact⟨⟨a1.1,a1.2,a2.1,a2.2,a3.1,a3.2,.inr (.inl k2),fun _=>⟨b1.1,b1.2,b2,b3.1,b3.2⟩,fun e=>by omega,fun _=>Mb hf b4⟩,fun e=>by omega⟩
   ·rw[show(x.kind==2)=false by simpa using k2]at h;by_cases k3:x.kind=3
    ·rw[show(x.kind==3)=true by simp[k3]]at h;simp only[cond_true,cond_false,Bool.and_eq_true,beq_iff_eq]at h;obtain⟨⟨b1,b2⟩,b3⟩:=h;rw[sL _ (by omega)]at b1 b3;exact⟨⟨a1.1,a1.2,a2.1,a2.2,a3.1,a3.2,.inr (.inr (.inl k3)),fun _=>⟨b1.1,b1.2,b2,b3.1,b3.2⟩,fun e=>by omega,fun e=>by omega⟩,fun e=>by omega⟩
    ·rw[show(x.kind==3)=false by simpa using k3]at h;by_cases k4:x.kind=4
     ·rw[show(x.kind==4)=true by simp[k4]]at h;simp only[cond_true,cond_false,Bool.and_eq_true,bne_iff_ne,decide_eq_true_eq]at h;obtain⟨⟨b1,b2⟩,b3⟩:=h;exact⟨⟨a1.1,a1.2,a2.1,a2.2,a3.1,a3.2,.inr (.inr (.inr k4)),fun e=>absurd k4 e,fun e=>by omega,fun e=>by omega⟩,fun _=>⟨b1,b2,b3⟩⟩
     ·rw[show(x.kind==4)=false by simpa using k4]at h;simp only[cond_false]at h;cases h
structure Deeds (d:District)(l:List Deed):Prop where
 right:Right1 d
 len:l.length≤512
 asc:Asc l
 fit:∀ x∈l,Fit d x
 void:∀ x∈l,x.kind=4→∃ y∈l,y.no=x.of_∧y.kind≠4∧y.known≤x.known∧y.no<x.no
theorem IB {d:District}:∀ {r b:List Deed},Chk d b r→∀ x∈r,∃ b',(∃ t,b++r=b'++x::t)∧b_ d (pH b') x=true
 | [],_,_,x,hx=>by cases hx
 |y::r,b,⟨h1,h2,h3⟩,x,hx=>by
  rcases List.mem_cons.1 hx with rfl|hx
  ·exact⟨b,⟨r,rfl⟩,h2⟩
  ·obtain⟨b',⟨t,e⟩,h⟩:=IB h3 x hx;exact⟨b',⟨t,by rw[←e];simp⟩,h⟩
theorem nz {d:District}{l:List Deed}(h:aC d l=0):Deeds d l:=by
 obtain⟨h1,h2,_,h4⟩:=(tx d l).1 h;have hr:=kT (d:=d) (by rw[h1];rfl);have hA:=Chk.asc List.Pairwise.nil h4;rw[List.nil_append]at hA;have hf:∀ x∈l,∃ b',(∃ t,l=b'++x::t)∧b_ d (pH b') x=true:=fun x hx=>by
  have:=IB h4 x hx;simpa using this
 refine⟨hr,h2,hA,fun x hx=>?_,fun x hx hk=>?_⟩
 ·obtain⟨b,_,h⟩:=hf x hx;exact(Mr hr.farms hr.rights h).1
 ·obtain⟨b,⟨t,e⟩,h⟩:=hf x hx;obtain⟨q1,q2,q3⟩:=(Mr hr.farms hr.rights h).2 hk;rw[Fv,List.any_eq_true]at q1;obtain⟨y,hy,hn⟩:=q1;have hn:y.no=x.of_:=by simpa using hn
  rw[e]at hA;have hAb:Asc b:=(List.pairwise_append.1 hA).1;rw[←hn,sX hAb hy]at q2 q3;exact⟨y,by rw[e];exact List.mem_append_left _ hy,hn,q2,q3,(List.pairwise_append.1 hA).2.2 y hy x List.mem_cons_self⟩
def jm (l:List Deed)(known n:Int):Bool:=l.any fun v=>v.kind==4&&decide (v.known≤known)&&v.of_==n
def wo (l:List Deed)(hour known:Int):List Deed:=l.filter fun x=>!((((x.kind==4) ||(decide (x.known > known))) ||(decide (x.at_ > hour))) ||jm l known x.no)
theorem Ms (l:List Deed)(known:Int):∃ m,am (d8 l known) l.length 0 []=.inr m∧∀ n,b9 .int .bool m n=jm l known n:=by
 obtain⟨r,h1,h2⟩:=iJ (step:=d8 l known) (fun k m=>∀ n,b9 .int .bool m n=jm (l.take k) known n) l.length 0 ([]:List (Int×Bool)) (fun n=>by simp[b9,fR,c6,jm]) (fun j s _ hj hs=>by
  rw[Nat.zero_add]at hj;unfold d8;rw[bo l default hj];cases hc:(((l.getD j (default:Deed)).kind==4)&&(decide ((l.getD j (default:Deed)).known≤known)))with
  |true=>
   refine⟨_,rfl,fun n=>?_⟩;rw[kU];unfold jm at hs ⊢;rw[List.any_append];simp only[List.any_cons,List.any_nil,Bool.or_false,hc,Bool.true_and];by_cases hn:n=(l.getD j (default:Deed)).of_
   ·subst hn;simp
   ·rw[if_neg hn,hs];have:((l.getD j (default:Deed)).of_==n)=false:=by simp only[beq_eq_false_iff_ne];exact fun e=>hn e.symm
    rw[this,Bool.or_false]
  |false=>
   refine⟨_,rfl,fun n=>?_⟩;rw[hs];unfold jm;rw[List.any_append];simp only[List.any_cons,List.any_nil,Bool.or_false,hc,Bool.false_and])
 refine⟨r,h1,fun n=>?_⟩;rw[h2,Nat.zero_add,List.take_length]
theorem Mt (K G:List Deed):((yT .deed (K++G) (K.length:Int) ((K++G).length:Int)).take K.length)=K:=by
 unfold yT;simp only[Int.toNat_natCast];split
 ·rename_i h;rw[List.length_append]at h;have:G=[]:=List.eq_nil_of_length_eq_zero (by omega);subst this;simp
 ·simp
theorem AC {α:Type}{step:Nat→Unit→Int⊕Unit}(l:List α)(d:α)(P:α→Bool)(h:∀ k,k<l.length→step k ()=bif P (l.getD k d)then .inl (k:Int)else .inr ()):(am step l.length 0 ()=.inr ()∧∀ x∈l,P x=false)∨∃ K x R,l=K++x::R∧am step l.length 0 ()=.inl (K.length:Int)∧P x=true∧∀ y∈K,P y=false:=by
 have key:∀ (R K:List α),l=K++R→(∀ y∈K,P y=false)→(am step R.length K.length ()=.inr ()∧∀ x∈l,P x=false)∨∃ K' x R',l=K'++x::R'∧am step R.length K.length ()=.inl (K'.length:Int)∧P x=true∧∀ y∈K',P y=false:=fun R=>by
  induction R with
  |nil=>exact fun K h hK=>.inl ⟨rfl,fun x hx=>hK x (by rw[h]at hx;simpa using hx)⟩
  |cons x R ih=>
   intro K hl hK;have e:=h K.length (by rw[hl];simp);have g:l.getD K.length d=x:=by rw[hl];simp[List.getD_eq_getElem?_getD]
   rw[g]at e;simp only[List.length_cons,am,e];cases hx:P x with
   |true=>exact .inr ⟨K,x,R,hl,rfl,hx,hK⟩
   |false=>
    simp only[cond_false];have:=ih (K++[x]) (by rw[hl];simp) (fun y hy=>by
     rcases List.mem_append.1 hy with hy|hy
     ·exact hK y hy
     ·simp at hy;subst hy;exact hx)
    rw[List.length_append]at this;exact this
 exact key l [] rfl (by simp)
theorem JU (l:List Deed)(known hour:Int)(v:List (Int×Bool))(hl:l.length<2 ^ 47):a7 l known hour v∧aY l known hour v=l.filter fun x=>!aW x known hour v:=by
 have hI:(ak l known hour v= -1∧∀ x∈l,aW x known hour v=false)∨∃ K x R,l=K++x::R∧ak l known hour v=(K.length:Int)∧aW x known hour v=true∧∀ y∈K,aW y known hour v=false:=by
  unfold ak;rcases AC (step:=dx l known hour v) l default (fun x=>aW x known hour v) (fun k _=>rfl)with⟨e,h⟩ | ⟨K,x,R,h1,e,h2,h3⟩
  ·rw[e];exact .inl ⟨rfl,h⟩
  ·rw[e];exact .inr ⟨K,x,R,h1,rfl,h2,h3⟩
 unfold a7 aY;rcases hI with⟨e,h⟩ | ⟨K,x,R,hl0,e,h2,h3⟩
 ·rw[e];refine⟨(fun h=>by cases h),?_⟩;simp only[BEq.rfl,cond_true];exact(List.filter_eq_self.2 fun x hx=>by rw[h x hx];rfl).symm
 ·have b:((K.length:Int) == -1)=false:=by simp only[beq_eq_false_iff_ne];omega
  have hlen:l.length=K.length+(R.length+1):=by rw[hl0];simp
  have w:i64.wrap ((K.length:Int)+1)=((K.length+1:Nat):Int):=by rw[aP (by omega) (by omega)];omega
  rw[e,w];simp only[b,cond_false];obtain⟨k1,r,k2,K',G',rfl,k3⟩:okI (aQ l known hour v) (bK l known hour v) (l.length+1) 0 (l,(K.length:Int),((K.length+1:Nat):Int))∧∃ r,am (aQ l known hour v) (l.length+1) 0 (l,(K.length:Int),((K.length+1:Nat):Int))=.inl r∧∃ K' G',r=((K'.length:Int),K'++G')∧K'=l.filter fun x=>!aW x known hour v:=by
   refine wi (fun s:List Deed×Int×Int=>((l.length:Int) - s.2.2).toNat) (fun s:List Deed×Int×Int=>∃ K' g G' R',s=(K'++g::(G'++R'),(K'.length:Int),((K'.length+(G'.length+1):Nat):Int))∧K'.length+(G'.length+1)+R'.length=l.length∧(l.filter fun x=>!aW x known hour v)=K'++R'.filter fun x=>!aW x known hour v) _ ?_ _ _ _ ⟨K,x,[],R,by rw[hl0];simp,by rw[hlen];simp;omega,?_⟩ (by simp only;omega)
   ·rintro k s ⟨K',g,G',R',rfl,hn,hF⟩;have hL:(K'++g::(G'++R')).length=l.length:=by rw[←hn];simp;omega
    unfold bK aQ;simp only[hL];cases R' with
    |nil=>
     have e1:decide (((K'.length+(G'.length+1):Nat):Int) < (l.length:Int))=false:=by rw[decide_eq_false_iff_not];simp only[List.length_nil]at hn;omega
     simp only[e1,cond_false];exact⟨(fun _ h=>by cases h),.inl ⟨_,rfl,K',g::(G'++[]),rfl,by simpa using hF.symm⟩⟩
    |cons y R'=>
     simp only[List.length_cons]at hn;have e1:decide (((K'.length+(G'.length+1):Nat):Int) < (l.length:Int))=true:=by rw[decide_eq_true_eq];omega
     have gy:(K'++g::(G'++y::R')).getD (K'.length+(G'.length+1)) default=y:=by
      have:K'++g::(G'++y::R')=(K'++g::G')++y::R':=by simp
      rw[this];exact kp _ _ _ _ (by simp)
     have w1:i64.wrap (((K'.length+(G'.length+1):Nat):Int)+1)=((K'.length+(G'.length+1)+1:Nat):Int):=by rw[aP (by omega) (by omega)];omega
     have w2:i64.wrap ((K'.length:Int)+1)=((K'.length+1:Nat):Int):=by rw[aP (by omega) (by omega)];omega
     simp only[e1,cond_true,Int.toNat_natCast,gy,w1,w2];refine⟨fun _ _=>⟨by omega,fun _=>by omega⟩,.inr ?_⟩;cases hy:aW y known hour v with
     |false=>
      obtain⟨g',G2,hG⟩:∃ g' G2,G'++[y]=g'::G2:=by
       cases G' with
       |nil=>exact⟨y,[],rfl⟩
       |cons a b=>exact⟨a,b++[y],rfl⟩
      have hGl:G'.length+1=G2.length+1:=by have:=congrArg List.length hG;simpa using this
      refine⟨_,rfl,by simp only;omega,K'++[y],g',G2,R',?_,?_,?_⟩
      ·rw[rh K' g y _ rfl];have h1:g'::(G2++R')=G'++y::R':=by rw[←List.cons_append,←hG];simp
       rw[List.append_assoc,h1,Prod.mk.injEq,Prod.mk.injEq];refine⟨by simp,by simp,?_⟩;rw[List.length_append];simp only[List.length_cons,List.length_nil];omega
      ·rw[List.length_append];simp only[List.length_cons,List.length_nil];omega
      ·rw[hF,List.filter_cons_of_pos (by rw[hy];rfl)];simp
     |true=>
      refine⟨_,rfl,by simp only;omega,K',g,G'++[y],R',?_,by rw[List.length_append];simp only[List.length_cons,List.length_nil];omega,?_⟩
      ·have:(G'++[y])++R'=G'++y::R':=by simp
       rw[this,List.length_append,Prod.mk.injEq,Prod.mk.injEq];exact⟨rfl,rfl,by simp only[List.length_cons,List.length_nil];omega⟩
      ·rw[hF,List.filter_cons_of_neg (by rw[hy];simp)]
   ·rw[hl0,List.filter_append,List.filter_cons_of_neg (by rw[h2];simp)];congr 1
    exact List.filter_eq_self.2 fun y hy=>by rw[h3 y hy];rfl
  refine⟨fun _=>⟨k1,xW (Q:=fun _=>True) ⟨_,k2,trivial⟩,fun z hz=>?_⟩,?_⟩
  ·rw[k2]at hz;cases hz;have:(yT .deed (K'++G') (K'.length:Int) ((K'++G').length:Int)).length=(K'++G').length:=by
    unfold yT;simp only[Int.toNat_natCast];split
    ·rfl
    ·simp <;>omega
   simp only[this];simp only[List.length_append];omega
  ·rw[k2];simp only[Int.toNat_natCast,List.drop_zero];rw[Mt,k3]
theorem Fx (l:List Deed)(hour known:Int)(hl:l.length≤512):fA l hour known∧cU l hour known=stS (wo l hour known):=by
 obtain⟨m,e,hm⟩:=Ms l known;have hp:∀ x,aW x known hour m=((((x.kind==4) ||(decide (x.known > known))) ||(decide (x.at_ > hour))) ||jm l known x.no):=fun x=>by
  unfold aW;rw[hm]
 obtain⟨d1,d2⟩:=JU l known hour m (by omega);have d3:(l.filter fun x=>!aW x known hour m)=wo l hour known:=by unfold wo;simp only[hp]
 rw[d3]at d2;have hlen:(wo l hour known).length≤l.length:=List.length_filter_le _ _;obtain⟨s1,s2⟩:=Fu (wo l hour known) (by omega);unfold fA cU;rw[e];refine⟨fun _ z hz=>?_,?_⟩
 ·cases hz;rw[d2];exact⟨by unfold d5;omega,d1,s1⟩
 ·simp only[d2,s2]
theorem tz (l:List Deed):aF l=l:=by
 obtain⟨r,h1,h2⟩:=iJ (step:=bE l) (fun k s=>s=l.take k) l.length 0 ([]:List Deed) (by simp) (fun j s _ hj hs=>⟨_,rfl,by rw[bo l default (by omega),hs]⟩);unfold aF;rw[h1];simp only[h2,Nat.zero_add,List.take_length]
theorem Mu (l:List Deed):ca l ((aF l).map xO):=fun _=>by
 rw[tz];refine⟨lh (fun k s=>s=l.take k) _ _ _ (by simp) (fun j s _ hj hs=>⟨?_,fun s' h=>?_⟩),fun s h=>?_⟩
 ·rw[Nat.zero_add]at hj;unfold cA;rw[hs,List.length_take,Nat.min_eq_left (by omega),List.getElem?_map,List.getElem?_eq_getElem hj,dX l _ hj];rfl
 ·rw[Nat.zero_add]at hj;unfold bE at h;cases h;rw[bo l default hj,hs]
 ·have:=tz l;unfold aF at this;rw[h]at this;simp only at this;rw[this,List.length_map]
theorem IC {n d:Int}(hd:1≤d)(hd2:d≤1073741824)(h1: -1152921504606846976≤n)(h2:n≤1152921504606846976):mq n d=n / d:=by
 unfold mq;have e1:Int.tmod (Int.tmod n d+d) d=n % d:=by
  have a1: -d<Int.tmod n d:=Int.lt_tmod_of_pos n (by omega);rw[Int.tmod_eq_emod_of_nonneg (by omega),Int.add_emod_right];rw[Int.tmod_eq_emod];split
  ·show(n % d - 0) % d=n % d;rw[Int.sub_zero,Int.emod_emod]
  ·have:n % d - (d.natAbs:Int)=n % d+d*(-1):=by omega
   rw[this,Int.add_mul_emod_self_left,Int.emod_emod]
 have a1: -d<Int.tmod n d:=Int.lt_tmod_of_pos n (by omega);have a2:Int.tmod n d<d:=Int.tmod_lt_of_pos n (by omega);rw[aP (by omega: -9223372036854775808≤Int.tmod n d+d) (by omega),e1];have b1:=Int.emod_nonneg n (by omega:d≠0);have b2:=Int.emod_lt_of_pos n (by omega:0<d);rw[aP (by omega: -9223372036854775808≤n - n % d) (by omega)];have e2:n - n % d=d*(n / d):=by have:=Int.mul_ediv_add_emod n d;omega
 rw[e2,Int.mul_tdiv_cancel_left _ (by omega)];have c1:n / d≤1152921504606846976:=by
  have:=Int.ediv_le_ediv (by omega:0<d) h2;have:=Int.ediv_le_self (b:=d) (by omega:(0:Int)≤1152921504606846976);omega
 have c2: -1152921504606846976≤n / d:=by
  rw[Int.le_ediv_iff_mul_le (by omega)];have:=Int.mul_le_mul_of_nonneg_left (by omega:1≤d) (by omega:(0:Int)≤1152921504606846976);omega
 exact aP (by omega) (by omega)
def im {κ υ:Type}(l:List (κ×υ)):List κ:=l.map fun p=>p.1
theorem Cg {κ υ:Type}[DecidableEq κ]:∀ {l:List (κ×υ)} {x:κ},x ∉ im l→fR l x=none
 | [],_,_=>rfl
 |(a,b)::r,x,h=>by
  unfold fR;rw[if_neg (fun e=>h (by simp[im,e]))];exact Cg fun hm=>h (by simp only[im,List.map_cons,List.mem_cons]at hm ⊢;exact .inr hm)
theorem AD {κ υ:Type}[DecidableEq κ]:∀ {l:List (κ×υ)},(im l).Nodup→∀ {x:κ} {y:υ},fR l x=some y↔(x,y)∈l
 | [],_,x,y=>by simp[fR]
 |(a,b)::r,h,x,y=>by
  have h':=List.nodup_cons.1 h;unfold fR;by_cases e:x=a
  ·subst e;rw[if_pos rfl];simp only[Option.some.injEq,List.mem_cons,Prod.mk.injEq,true_and];refine⟨fun h=>.inl h.symm,fun h=>?_⟩;rcases h with h|h
   ·exact h.symm
   ·exact absurd (List.mem_map_of_mem (f:=fun p:κ×υ=>p.1) h) h'.1
  ·rw[if_neg e,AD h'.2];simp only[List.mem_cons,Prod.mk.injEq,e,false_and,false_or]
theorem qB {κ υ:Type}[DecidableEq κ](x:κ)(y:υ):∀ (l:List (κ×υ)),(im l).Nodup→(im (u7 l x y)).Nodup∧∀ z,z∈im (u7 l x y)→z=x∨z∈im l
 | [],_=>by simp[u7,im]
 |(a,b)::r,h=>by
  have h':=List.nodup_cons.1 h;unfold u7;by_cases e:x=a
  ·subst e;rw[if_pos rfl];exact⟨h,fun z hz=>.inr hz⟩
  ·rw[if_neg e];obtain⟨g1,g2⟩:=qB x y r h'.2;refine⟨List.nodup_cons.2 ⟨fun hm=>?_,g1⟩,fun z hz=>?_⟩
   ·rcases g2 _ hm with h3|h3
    ·exact e h3.symm
    ·exact h'.1 h3
   ·rcases List.mem_cons.1 hz with rfl|hz
    ·exact .inr List.mem_cons_self
    ·rcases g2 z hz with h3|h3
     ·exact .inl h3
     ·exact .inr (List.mem_cons_of_mem _ h3)
theorem xi {κ υ:Type}[DecidableEq κ](x:κ):∀ (l:List (κ×υ)),(im l).Nodup→(im (wA l x)).Nodup∧(∀ z,z∈im (wA l x)→z∈im l)∧∀ z,fR (wA l x) z=if z=x then none else fR l z
 | [],_=>by simp[wA,im,fR]
 |(a,b)::r,h=>by
  have h':=List.nodup_cons.1 h;unfold wA;by_cases e:x=a
  ·subst e;rw[if_pos rfl];refine⟨h'.2,fun z hz=>List.mem_cons_of_mem _ hz,fun z=>?_⟩;by_cases hz:z=x
   ·subst hz;rw[if_pos rfl];exact Cg h'.1
   ·rw[if_neg hz];simp only[fR,if_neg hz]
  ·rw[if_neg e];obtain⟨g1,g2,g3⟩:=xi x r h'.2;refine⟨List.nodup_cons.2 ⟨fun hm=>h'.1 (g2 _ hm),g1⟩,fun z hz=>?_,fun z=>?_⟩
   ·rcases List.mem_cons.1 hz with rfl|hz
    ·exact List.mem_cons_self
    ·exact List.mem_cons_of_mem _ (g2 z hz)
   ·simp only[fR,g3];by_cases hz:z=a
    ·subst hz;rw[if_pos rfl,if_neg (fun e2=>e e2.symm),if_pos rfl]
    ·simp only[if_neg hz]
def tot:Nat→(Int→Int)→Int
 |0,_=>0
 |n+1,g=>tot n g+g (n:Int)
def gA (g:Int→Int)(f v:Int):Int→Int:=fun x=>if x=f then v else g x
theorem Fy {g h:Int→Int}:∀ {n:Nat},(∀ f:Int,0≤f→f< (n:Int)→g f=h f)→tot n g=tot n h
 |0,_=>rfl
 |n+1,e=>by unfold tot;rw[Fy (n:=n) fun f h1 h2=>e f h1 (by omega),e n (by omega) (by omega)]
theorem ri (g:Int→Int)(f v:Int):∀ (n:Nat),0≤f→f< (n:Int)→tot n (gA g f v)=tot n g - g f+v
 |0,h0,h1=>by omega
 |n+1,h0,h1=>by
  unfold tot;by_cases h:f=(n:Int)
  ·subst h;rw[Fy (g:=gA g n v) (h:=g) fun x _ hx=>by unfold gA;rw[if_neg (by omega)]];unfold gA;rw[if_pos rfl];omega
  ·rw[ri g f v n h0 (by omega)];unfold gA;rw[if_neg (fun e=>h e.symm)];omega
theorem Hk {g:Int→Int}(h:∀ f,0≤g f):∀ n,0≤tot n g
 |0=>Int.le_refl _
 |n+1=>by have:=Hk h n;have:=h n;unfold tot;omega
theorem AE {g:Int→Int}(h:∀ f,0≤g f):∀ (n:Nat) (f:Int),0≤f→f< (n:Int)→g f≤tot n g
 |0,f,h0,h1=>by omega
 |n+1,f,h0,h1=>by
  unfold tot;have h2:=Hk h n;by_cases e:f=(n:Int)
  ·subst e;omega
  ·have:=AE h n f h0 (by omega);have:=h n;omega
structure Good (F:Nat)(L:Int)(g:Int→Int):Prop where
 nn:∀ f,0≤g f
 sup:∀ f,g f≠0→0≤f∧f< (F:Int)
 tot:tot F g≤L
theorem Good.le {F:Nat}{L:Int}{g:Int→Int}(h:Good F L g)(hL:0≤L)(f:Int):g f≤L:=by
 by_cases e:g f=0
 ·omega
 ·obtain⟨a,b⟩:=h.sup f e;exact Int.le_trans (AE h.nn F f a b) h.tot
theorem Good.put {F:Nat}{L M:Int}{g:Int→Int}(h:Good F L g){f v:Int}(h0:0≤f)(h1:f< (F:Int))(hv:0≤v)(hM:Go.Sx.tot F g - g f+v≤M):Good F M (gA g f v) where
 nn:=fun x=>by unfold gA;split;exact hv;exact h.nn x
 sup:=fun x hx=>by
  unfold gA at hx;split at hx
  ·rename_i e;rw[e];exact⟨h0,h1⟩
  ·exact h.sup x hx
 tot:=by rw[ri g f v F h0 h1];exact hM
def loP (p:Part)(n:Int):Int:=p.share.n*n / p.share.d
theorem Mv {a:Ratio}(h:RatioOk a){n:Int}(h0:0≤n)(h1:n≤1073741824):(fb a n).1=a.n*n / a.d∧(fb a n).2.1= -(-(a.n*n) / a.d)∧(fb a n).2.2=0:=by
 have hb: -1152921504606846976≤a.n*n∧a.n*n≤1152921504606846976:=by
  have:(a.n*n).natAbs≤1073741824*1073741824:=by rw[Int.natAbs_mul];exact Nat.mul_le_mul (by have:=h.n0;have:=h.n;omega) (by omega)
  omega
 have hd:=h.d1;have hd2:=h.d;have hn0:=h.n0;have hn1:=h.n;unfold fb;rw[(eF a).2 h];have e:(decide (n< -1073741824) ||decide (n > 1073741824))=false:=by simp;omega
 simp only[bne_self_eq_false,cond_false,e];have ee: -a.n*n= -(a.n*n):=Int.neg_mul _ _;rw[aP (n:=a.n*n) (by omega) (by omega),aP (n:=0 - a.n) (by omega) (by omega),show 0 - a.n= -a.n by omega,ee,aP (n:= -(a.n*n)) (by omega) (by omega),IC hd hd2 (by omega) (by omega),IC hd hd2 (by omega) (by omega)];refine⟨rfl,?_,trivial⟩;have c1: -(a.n*n) / a.d≤1152921504606846976:=by
  have:=Int.ediv_le_ediv (by omega:0<a.d) (by omega: -(a.n*n)≤1152921504606846976);have:=Int.ediv_le_self (b:=a.d) (by omega:(0:Int)≤1152921504606846976);omega
 have c2: -1152921504606846976≤ -(a.n*n) / a.d:=by
  rw[Int.le_ediv_iff_mul_le (by omega)];have:=Int.mul_le_mul_of_nonneg_left (by omega:1≤a.d) (by omega:(0:Int)≤1152921504606846976);omega
 rw[aP (by omega) (by omega)];omega
theorem Fz {p:Part}(h:RatioOk p.share)(hp:0<p.share.n){n:Int}(h0:0≤n):0≤loP p n:=by
 unfold loP;exact Int.ediv_nonneg (Int.mul_nonneg (by omega) h0) (by have:=h.d1;omega)
theorem Mw {x d:Rat}(hd:0<d)(h:0≤x*d):0≤x:=by
 rcases Classical.em (0≤x)with h1|h1
 ·exact h1
 ·have h2:0< -x:=by grind
  have h3:=Rat.mul_pos h2 hd;grind
theorem Sq {p:Part}(h:RatioOk p.share)(n:Int):((loP p n:Int):Rat)≤rv p.share*(n:Rat)∧rv p.share*(n:Rat)≤((loP p n:Int):Rat)+1:=by
 have hd:=h.d1;have d0:(0:Rat) < (p.share.d:Rat):=by exact_mod_cast (by omega:(0:Int) <p.share.d)
 have dn:(p.share.d:Rat)≠0:=nu (by omega);have e1:rv p.share*(p.share.d:Rat)=(p.share.n:Rat):=by unfold rv;exact Rat.div_mul_cancel dn
 have q:=Int.mul_ediv_add_emod (p.share.n*n) p.share.d;have q1:=Int.emod_nonneg (p.share.n*n) (by omega:p.share.d≠0);have q2:=Int.emod_lt_of_pos (p.share.n*n) (by omega:0<p.share.d);have r1:p.share.d*loP p n≤p.share.n*n:=by unfold loP;omega
 have r2:p.share.n*n≤p.share.d*loP p n+p.share.d:=by unfold loP;omega
 have r1':(p.share.d:Rat)*((loP p n:Int):Rat)≤(p.share.n:Rat)*(n:Rat):=by exact_mod_cast r1
 have r2':(p.share.n:Rat)*(n:Rat)≤(p.share.d:Rat)*((loP p n:Int):Rat)+(p.share.d:Rat):=by exact_mod_cast r2
 rw[←e1]at r1' r2';generalize ((loP p n:Int):Rat)=lo at *;generalize (n:Rat)=m at *;generalize rv p.share=v at *;generalize (p.share.d:Rat)=d at *;constructor
 ·have:=Mw (x:=v*m - lo) d0 (by grind);grind
 ·have:=Mw (x:=lo+1 - v*m) d0 (by grind);grind
def cb (l:List Part)(n:Int):Int:=(l.map fun p=>loP p n).sum
theorem Sr {l:List Part}(h:∀ p∈l,RatioOk p.share)(n:Int):((cb l n:Int):Rat)≤wc l*(n:Rat)∧wc l*(n:Rat)≤((cb l n+(l.length:Int):Int):Rat):=by
 induction l with
 |nil=>simp[cb,wc,Rat.zero_mul]
 |cons p r ih=>
  obtain⟨i1,i2⟩:=ih fun q hq=>h q (List.mem_cons_of_mem _ hq);obtain⟨j1,j2⟩:=Sq (h p List.mem_cons_self) n;have e:cb (p::r) n=loP p n+cb r n:=by simp[cb]
  have e1:((cb (p::r) n:Int):Rat)=((loP p n:Int):Rat)+((cb r n:Int):Rat):=by rw[e];exact_mod_cast rfl
  have e2:((cb (p::r) n+((p::r).length:Int):Int):Rat)=(((loP p n:Int):Rat)+1)+((cb r n+(r.length:Int):Int):Rat):=by
   have:cb (p::r) n+((p::r).length:Int)=(loP p n+1)+(cb r n+(r.length:Int)):=by rw[e];simp only[List.length_cons];omega
   rw[this];exact_mod_cast rfl
  rw[e1,e2];simp only[wc];generalize ((loP p n:Int):Rat)=a at *;generalize ((cb r n:Int):Rat)=b at *;generalize ((cb r n+(r.length:Int):Int):Rat)=c at *;generalize (n:Rat)=m at *;generalize rv p.share=v at *;generalize wc r=w at *;constructor <;>grind
theorem DF {d:District}{l:List Part}(h:PartsOk d l)(n:Int):cb l n≤n∧n≤cb l n+(l.length:Int):=by
 obtain⟨h1,h2⟩:=Sr (fun p hp=>(h.part p hp).share) n;rw[h.sum,Rat.one_mul]at h1 h2;exact⟨by exact_mod_cast h1,by exact_mod_cast h2⟩
theorem tmod_neg {p q:Nat}(hq:0<q):Int.tmod (-(p:Int)) (-(q:Int))= -((p % q:Nat):Int):=by
 rw[Int.tmod_neg,Int.neg_tmod,Int.tmod_eq_emod_of_nonneg (by omega)];rfl
theorem AF (a1:Int):∀ (n i:Nat) (p q:Nat),q<n→∃ a b,am (fG a1) n i (-(p:Int),-(q:Int))=.inl (a,b)∧((b= -1∧Nat.gcd p q=1)∨(b=0∧a= -((Nat.gcd p q:Nat):Int)))
 |0,_,_,_,h=>by omega
 |n+1,i,p,q,h=>by
  simp only[am,fG];by_cases h1:1<q
  ·rw[decide_eq_true (by omega)];simp only[cond_true];rw[tmod_neg (by omega)];have hlt:p % q<q:=Nat.mod_lt _ (by omega);obtain⟨a,b,e,h2⟩:=AF a1 n (i+1) q (p % q) (by omega);have eg:Nat.gcd q (p % q)=Nat.gcd p q:=by rw[Nat.gcd_comm p q,Nat.gcd_rec q p,Nat.gcd_comm]
   rw[eg]at h2;exact⟨a,b,e,h2⟩
  ·rw[decide_eq_false (by omega)];simp only[cond_false];refine⟨_,_,rfl,?_⟩;by_cases h0:q=0
   ·subst h0;exact .inr ⟨by simp,by simp⟩
   ·have:q=1:=by omega
    subst this;exact .inl ⟨by simp,by simp⟩
theorem JV {n d:Int}(h0: -4611686018427387904≤n)(h1:n≤4611686018427387904)(h2: -4611686018427387904≤d)(h3:d≤4611686018427387904):lu n d∧kz n d=mkR n d:=by
 unfold lu kz;by_cases hd:d=0
 ·subst hd;refine⟨(fun h=>by cases h),?_⟩;unfold mkR;rfl
 ·have e:(d==0)=false:=by simpa using hd
  rw[e];simp only[cond_false];have ex:(bif(decide (n > 0))then(i64.wrap (0 - n))else n)= -((n.natAbs:Nat):Int):=by
   by_cases h:n > 0
   ·rw[decide_eq_true h,cond_true,aP (by omega) (by omega)];omega
   ·rw[decide_eq_false h,cond_false];omega
  have ey:(bif(decide (d > 0))then(i64.wrap (0 - d))else d)= -((d.natAbs:Nat):Int):=by
   by_cases h:d > 0
   ·rw[decide_eq_true h,cond_true,aP (by omega) (by omega)];omega
   ·rw[decide_eq_false h,cond_false];omega
  rw[ex,ey];obtain⟨a,b,er,hr⟩:=AF d (Int.natAbs d+2) 0 n.natAbs d.natAbs (by omega);rw[er];have g0:0<Nat.gcd n.natAbs d.natAbs:=Nat.gcd_pos_of_pos_right _ (by omega);have okp:okI (fG d) (kl d) (Int.natAbs d+2) 0 (-((n.natAbs:Nat):Int),-((d.natAbs:Nat):Int)):=iF _ _ _ fun j s _ _ h=>by rw[decide_eq_true_eq]at h;omega
  simp only;have l1:n.natAbs / Nat.gcd n.natAbs d.natAbs≤n.natAbs:=Nat.div_le_self _ _;have l2:d.natAbs / Nat.gcd n.natAbs d.natAbs≤d.natAbs:=Nat.div_le_self _ _;rcases hr with⟨rfl,hg⟩ | ⟨rfl,rfl⟩
  ·
   have t:∀ m:Nat,Int.tdiv (-(m:Int)) (-1)=(m:Int):=fun m=>by rw[Int.tdiv_neg,Int.neg_tdiv,Int.tdiv_one];omega
   refine⟨fun _=>⟨okp,(fun z h=>by cases h),fun x hx=>by cases hx;exact⟨fun _ _=>by decide,(fun h=>by cases h)⟩⟩,?_⟩;unfold mkR;rw[if_neg hd,hg,Nat.div_one,Nat.div_one,t,t];simp only[BEq.rfl,cond_true];by_cases hb:1073741824<n.natAbs∨1073741824<d.natAbs
   ·rw[if_pos hb];have:((decide (-((n.natAbs:Nat):Int) < (-1073741824))) ||(decide (-((d.natAbs:Nat):Int) < (-1073741824))))=true:=by
     rw[Bool.or_eq_true,decide_eq_true_eq,decide_eq_true_eq];omega
    rw[this];rfl
   ·rw[if_neg hb];have e1:((decide (-((n.natAbs:Nat):Int) < (-1073741824))) ||(decide (-((d.natAbs:Nat):Int) < (-1073741824))))=false:=by
     rw[Bool.or_eq_false_iff,decide_eq_false_iff_not,decide_eq_false_iff_not];omega
    rw[e1,aP (n:=((n.natAbs:Nat):Int)) (by omega) (by omega),aP (n:=((d.natAbs:Nat):Int)) (by omega) (by omega),aP (n:=0 - ((n.natAbs:Nat):Int)) (by omega) (by omega)];have e2:((decide (((n.natAbs:Nat):Int) > 1073741824)) ||(decide (((d.natAbs:Nat):Int) > 1073741824)))=false:=by
     rw[Bool.or_eq_false_iff,decide_eq_false_iff_not,decide_eq_false_iff_not];omega
    rw[e2];simp only[cond_false];cases(decide (n<0)) !=(decide (d<0)) <;>simp
  ·have t:∀ m:Nat,Int.tdiv (-(m:Int)) (-((Nat.gcd n.natAbs d.natAbs:Nat):Int))=((m / Nat.gcd n.natAbs d.natAbs:Nat):Int):=fun m=>by rw[Int.tdiv_neg,Int.neg_tdiv,Int.neg_neg,Int.tdiv_eq_ediv_of_nonneg (by omega)];rfl
   refine⟨fun _=>⟨okp,(fun z h=>by cases h),fun x hx=>by cases hx;exact⟨(fun h=>by cases h),fun _ _=>by simp only;omega⟩⟩,?_⟩;unfold mkR;rw[if_neg hd,t,t];have b0:((0:Int) == -1)=false:=by decide
   rw[b0];simp only[cond_false];generalize hx:n.natAbs / Nat.gcd n.natAbs d.natAbs=x at *;generalize hy:d.natAbs / Nat.gcd n.natAbs d.natAbs=y at *;by_cases hb:1073741824<x∨1073741824<y
   ·rw[if_pos hb];have e1:((decide (i64.wrap (x:Int) > 1073741824)) ||(decide (i64.wrap (y:Int) > 1073741824)))=true:=by
     rw[aP (by omega) (by omega),aP (by omega) (by omega),Bool.or_eq_true,decide_eq_true_eq,decide_eq_true_eq];omega
    rw[e1];cases(-((Nat.gcd n.natAbs d.natAbs:Nat):Int) == -1)&&((decide (-((n.natAbs:Nat):Int) < (-1073741824))) ||(decide (-((d.natAbs:Nat):Int) < (-1073741824)))) <;>rfl
   ·rw[if_neg hb];have e1:((-((Nat.gcd n.natAbs d.natAbs:Nat):Int) == -1)&&((decide (-((n.natAbs:Nat):Int) < (-1073741824))) ||(decide (-((d.natAbs:Nat):Int) < (-1073741824)))))=false:=by
     by_cases hg:Nat.gcd n.natAbs d.natAbs=1
     ·rw[hg,Nat.div_one]at hx hy;rw[Bool.and_eq_false_iff];right;rw[Bool.or_eq_false_iff,decide_eq_false_iff_not,decide_eq_false_iff_not];omega
     ·rw[Bool.and_eq_false_iff];left;simp only[beq_eq_false_iff_ne];omega
    have e2:((decide (i64.wrap (x:Int) > 1073741824)) ||(decide (i64.wrap (y:Int) > 1073741824)))=false:=by
     rw[aP (by omega) (by omega),aP (by omega) (by omega),Bool.or_eq_false_iff,decide_eq_false_iff_not,decide_eq_false_iff_not];omega
    rw[e1,e2,aP (n:=(x:Int)) (by omega) (by omega),aP (n:=(y:Int)) (by omega) (by omega),aP (n:=0 - (x:Int)) (by omega) (by omega)];simp only[cond_false];cases(decide (n<0)) !=(decide (d<0)) <;>simp
theorem FA (a b:Ratio):nc a b∧kM a b=d7 a b:=by
 rw[G6];unfold nc kM;have hB:g8 a b=((aH a==0)&&(aH b==0)):=by unfold g8;rw[qx,qx]
 rw[hB];by_cases h:aH a=0∧aH b=0
 ·have ha:=(eF a).1 h.1;have hb:=(eF b).1 h.2;have m1:=yk ha.n0 ha.n hb.d1 hb.d;have m2:=yk hb.n0 hb.n ha.d1 ha.d;have h1:=ha.d1;have h2:=ha.d;have m3:=yk (a:=a.d) (by omega) h2 hb.d1 hb.d;rw[if_pos h,h.1,h.2,aP (n:=a.n*b.d) (by omega) (by omega),aP (n:=b.n*a.d) (by omega) (by omega),aP (n:=a.d*b.d) (by omega) (by omega),aP (n:=a.n*b.d+b.n*a.d) (by omega) (by omega)];obtain⟨p,e⟩:=JV (n:=a.n*b.d+b.n*a.d) (d:=a.d*b.d) (by omega) (by omega) (by omega) (by omega);rw[e];exact⟨⟨G5 a b,fun _=>p⟩,rfl⟩
 ·have:((aH a==0)&&(aH b==0))=false:=by
   cases h1:(aH a==0) <;>cases h2:(aH b==0) <;>simp_all
  rw[if_neg h,this];exact⟨⟨G5 a b,(fun h=>by cases h)⟩,rfl⟩
theorem Mx {n d:Int}(hd:1≤d)(hd2:d≤1073741824)(h1: -1152921504606846976≤n)(h2:n≤1152921504606846976):kO n d=n / d:=by
 unfold kO;have q:=Int.mul_ediv_add_emod n d;have q1:=Int.emod_nonneg n (by omega:d≠0);have q2:=Int.emod_lt_of_pos n (by omega:0<d);have c1:n / d≤1152921504606846976:=by
  have:=Int.ediv_le_ediv (by omega:0<d) h2;have:=Int.ediv_le_self (b:=d) (by omega:(0:Int)≤1152921504606846976);omega
 have c2: -1152921504606846976≤n / d:=by
  rw[Int.le_ediv_iff_mul_le (by omega)];have:=Int.mul_le_mul_of_nonneg_left (by omega:1≤d) (by omega:(0:Int)≤1152921504606846976);omega
 have hs:d.sign=1:=Int.sign_eq_one_of_pos (by omega);have ht:=Int.tdiv_eq_ediv (a:=n) (b:=d);have hm:=Int.tmod_eq_emod (a:=n) (b:=d);by_cases hn:0≤n∨d ∣ n
 ·rw[if_pos hn]at ht hm;rw[ht,hm,decide_eq_false (by omega),cond_false,aP (by omega) (by omega)];omega
 ·rw[if_neg hn]at ht hm;have hne:n % d≠0:=fun e=>hn (.inr (Int.dvd_of_emod_eq_zero e));rw[ht,hm,hs,decide_eq_true (by omega),cond_true,aP (n:=n / d+1) (by omega) (by omega),aP (by omega) (by omega)];omega
theorem Hl {a:Ratio}(h:RatioOk a){n:Int}(h0:0≤n)(h1:n≤1073741824):jU a n∧(d6 a n).1=a.n*n / a.d:=by
 have hb: -1152921504606846976≤a.n*n∧a.n*n≤1152921504606846976:=by
  have:(a.n*n).natAbs≤1073741824*1073741824:=by rw[Int.natAbs_mul];exact Nat.mul_le_mul (by have:=h.n0;have:=h.n;omega) (by omega)
  omega
 have hd:=h.d1;have hd2:=h.d;refine⟨⟨tu a,fun _ _=>⟨⟨by omega,by omega⟩,⟨by omega,by omega⟩⟩⟩,?_⟩;unfold d6;rw[(mt a).2 h];have e:(decide (n< -1073741824) ||decide (n > 1073741824))=false:=by simp;omega
 simp only[Bool.not_true,cond_false,e];rw[aP (n:=a.n*n) (by omega) (by omega),Mx hd hd2 (by omega) (by omega)]
theorem AG {ρ ρ' σ σ':Type}{f:Nat→σ→ρ⊕σ}{g:Nat→σ'→ρ'⊕σ'}(R:Nat→σ→σ'→Prop):∀ (n i:Nat) (s:σ) (t:σ'),R i s t→(∀ j s t,i≤j→j<i+n→R j s t→(∃ a b,f j s=.inl a∧g j t=.inl b)∨∃ s' t',f j s=.inr s'∧g j t=.inr t'∧R (j+1) s' t')→
  (∃ a b,am f n i s=.inl a∧am g n i t=.inl b)∨∃ s' t',am f n i s=.inr s'∧am g n i t=.inr t'∧R (i+n) s' t'
 |0,i,s,t,h,_=>.inr ⟨s,t,rfl,rfl,h⟩
 |n+1,i,s,t,h,hs=>by
  rcases hs i s t (Nat.le_refl _) (by omega) h with⟨a,b,e1,e2⟩ | ⟨s',t',e1,e2,h'⟩
  ·exact .inl ⟨a,b,by simp only[am,e1],by simp only[am,e2]⟩
  ·simp only[am,e1,e2];have:=AG R n (i+1) s' t' h' fun j s t h1 h2=>hs j s t (by omega) (by omega)
   rwa[show i+1+n=i+(n+1) by omega]at this
theorem Pd (l:List Part)(k:Nat):am (ez l k) k 0 ()=.inr ()↔∀ i,i<k→(l.getD i default).farm≠(l.getD k default).farm:=by
 rw[dS];refine forall_congr' fun i=>forall_congr' fun _=>?_;unfold ez;cases h:(l.getD i default).farm==(l.getD k default).farm with
 |true=>simp only[cond_true];rw[beq_iff_eq]at h;exact⟨(fun e=>by cases e),fun e=>absurd h e⟩
 |false=>simp only[cond_false];rw[beq_eq_false_iff_ne]at h;exact⟨fun _=>h,fun _=>by first|rfl|trivial⟩
theorem JW (l:List Part)(k:Nat)(hk:k≤l.length)(f:Int):f∈(l.take k).map (fun x=>x.farm)↔∃ i,i<k∧(l.getD i default).farm=f:=by
 rw[List.mem_map];constructor
 ·rintro⟨x,hx,rfl⟩;obtain⟨i,hi,rfl⟩:=List.mem_iff_getElem.1 hx;rw[List.length_take]at hi;exact⟨i,by omega,by rw[dX l _ (by omega),List.getElem_take]⟩
 ·rintro⟨i,hi,rfl⟩;refine⟨l.getD i default,?_,rfl⟩;rw[dX l _ (by omega)];exact List.mem_iff_getElem.2 ⟨i,by rw[List.length_take];omega,by rw[List.getElem_take]⟩
theorem JX {a:Ratio}(h:RatioOk a):(a.n==a.d)=((a.n==1)&&(a.d==1)):=by
 rw[Bool.eq_iff_iff,Bool.and_eq_true,beq_iff_eq,beq_iff_eq,beq_iff_eq];constructor
 ·intro e;have h1:=h.gcd;rw[e]at h1 ⊢;have h2:=h.d1;have:a.d.natAbs=a.d.toNat:=by omega
  rw[this,Nat.gcd_self]at h1;omega
 ·rintro⟨h1,h2⟩;rw[h1,h2]
theorem Pe (d:District)(l:List Part):mG d l:=fun hl _=>iF _ _ _ fun j s _ hj hl'=>⟨fun _=>tu _,fun _=>⟨by unfold aU at *;omega,iF _ _ _ fun i s _ hi=>by rw[Int.toNat_natCast]at hi;exact⟨by omega,by omega⟩,fun _ _=>(FA _ _).1⟩⟩
theorem My {d:District}(hf:d.farms.length≤600)(l:List Part):nj d l=fX d l:=by
 unfold nj fX;have h01:RatioOk { n:=0,d:=1}:=⟨by decide,by decide,by decide,by decide,by decide⟩;have key:=AG (f:=eB d l) (g:=i0 d l) (fun j s t=>t=(s.1,s.2.1)∧RatioOk { n:=s.1,d:=s.2.1}∧∀ f:Int,b9 .int .bool s.2.2 f=decide (f∈(l.take j).map fun x=>x.farm)) l.length 0 (0,1,[]) (0,1) ⟨rfl,h01,fun f=>by simp[b9,fR,c6]⟩ (fun j s t _ hj ⟨j1,j2,j3⟩ =>by
  rw[Nat.zero_add]at hj;subst j1;unfold eB i0;rw[Int.toNat_natCast];have hin:=sL (l.getD j default).farm (k:=d.farms.length) (by omega);have hm:=j3 (l.getD j default).farm;have hadd:=FA { n:=s.1,d:=s.2.1} (l.getD j default).share;have hd:=Pd l j;rw[hadd.2];have htk:=bo l default hj;have htf:=JW l j (by omega) (l.getD j default).farm;generalize hp:l.getD j default=p at *;by_cases hA:0≤p.farm∧p.farm< (d.farms.length:Int)
  ·have hA1:=hin.2 hA;have hA2:((decide (p.farm<0)) ||(decide (p.farm≥(d.farms.length:Int))))=false:=by
    rw[Bool.or_eq_false_iff,decide_eq_false_iff_not,decide_eq_false_iff_not];omega
   rw[hA1,hA2,hm];by_cases hC:p.share.n≤0
   ·rw[decide_eq_true hC];simp only[Bool.or_true,cond_true];exact .inl ⟨(),(),by first|rfl|trivial,by first|rfl|trivial⟩
   ·rw[decide_eq_false hC];simp only[Bool.not_true,Bool.false_or,Bool.or_false];by_cases hV:RatioOk p.share
    ·rw[(mt _).2 hV];simp only[Bool.not_true,cond_false];by_cases hB:p.farm∈(l.take j).map fun x=>x.farm
     ·rw[decide_eq_true hB];simp only[cond_true];have hn:am (ez l j) j 0 ()≠ .inr ():=fun e=>by
       obtain⟨i,hi,e2⟩:=htf.1 hB;exact hd.1 e i hi e2
      cases hr:am (ez l j) j 0 ()with
      |inl x=>exact .inl ⟨(),(),by first|rfl|trivial,by first|rfl|trivial⟩
      |inr x=>exact absurd (by rw[hr]) hn
     ·rw[decide_eq_false hB];simp only[cond_false];have hn:am (ez l j) j 0 ()=.inr ():=hd.2 fun i hi e=>hB (htf.2 ⟨i,hi,e⟩);rw[hn];simp only;cases he:((d7 { n:=s.1,d:=s.2.1} p.share).2 !=0)with
      |true=>exact .inl ⟨(),(),by first|rfl|trivial,by first|rfl|trivial⟩
      |false=>
       have he:(d7 { n:=s.1,d:=s.2.1} p.share).2=0:=by simpa using he
       obtain⟨_,_,a3,_⟩:=L_ (r:=(d7 { n:=s.1,d:=s.2.1} p.share).1) (by rw[←he]);refine .inr ⟨_,_,rfl,rfl,rfl,a3,fun f=>?_⟩;rw[kU,htk,List.map_append];by_cases hf:f=p.farm
       ·subst hf;simp
       ·rw[if_neg hf,j3,decide_eq_decide];simp only[List.mem_append,List.map_cons,List.map_nil,List.mem_singleton];exact⟨.inl,fun h=>h.elim id fun e=>absurd e hf⟩
    ·have hV2:cX p.share=false:=by
      cases h:cX p.share with
      |true=>exact absurd ((mt _).1 h) hV
      |false=>rfl
     rw[hV2];simp only[Bool.not_false,cond_true];have he:((d7 { n:=s.1,d:=s.2.1} p.share).2 !=0)=true:=by
      rw[G6,if_neg (fun h=>hV ((eF _).1 h.2))];rfl
     rw[he];cases decide (p.farm∈(l.take j).map fun x=>x.farm) <;>exact .inl ⟨(),(),by first|rfl|trivial,by first|rfl|trivial⟩
  ·have hA1:aq p.farm 0 (i64.wrap ((d.farms.length:Int) - 1))=false:=by
    cases h:aq p.farm 0 (i64.wrap ((d.farms.length:Int) - 1))with
    |true=>exact absurd (hin.1 h) hA
    |false=>rfl
   have hA2:((decide (p.farm<0)) ||(decide (p.farm≥(d.farms.length:Int))))=true:=by
    rw[Bool.or_eq_true,decide_eq_true_eq,decide_eq_true_eq];omega
   rw[hA1,hA2];exact .inl ⟨(),(),by first|rfl|trivial,by first|rfl|trivial⟩)
 by_cases hl:1≤l.length∧l.length≤16
 ·have e1:((decide ((l.length:Int) <1)) ||(decide ((l.length:Int) > 16)))=false:=by
   rw[Bool.or_eq_false_iff,decide_eq_false_iff_not,decide_eq_false_iff_not];omega
  have e2:aq (l.length:Int) 1 16=true:=(rb _ _ _).2 (by omega);rw[e1,e2];simp only[cond_false,Bool.true_and];rcases key with⟨a,b,q1,q2⟩ | ⟨s,t,q1,q2,q3,q4,_⟩
  ·rw[q1,q2]
  ·rw[q1,q2];subst q3;exact JX q4
 ·have e1:((decide ((l.length:Int) <1)) ||(decide ((l.length:Int) > 16)))=true:=by
   rw[Bool.or_eq_true,decide_eq_true_eq,decide_eq_true_eq];omega
  have e2:aq (l.length:Int) 1 16=false:=by
   cases h:aq (l.length:Int) 1 16 with
   |true=>have:=(rb _ _ _).1 h;omega
   |false=>rfl
  rw[e1,e2];simp only[cond_true,Bool.false_and];split <;>rfl
theorem FB (b:List Deed)(n:Int):(fI b n= -1∧∀ y∈b,¬ (y.no=n∧y.kind≠4))∨∃ K y R,b=K++y::R∧fI b n=(K.length:Int)∧y.no=n∧y.kind≠4:=by
 unfold fI;have hP:∀ y:Deed,((y.no==n)&&(y.kind !=4))=true↔(y.no=n∧y.kind≠4):=fun y=>by rw[Bool.and_eq_true,beq_iff_eq,bne_iff_ne]
 rcases AC (step:=oQ b n) b default (fun y=>(y.no==n)&&(y.kind !=4)) (fun k _=>rfl)with⟨e,h⟩ | ⟨K,x,R,h1,e,h2,h3⟩
 ·rw[e];exact .inl ⟨rfl,fun y hy hh=>by have:=h y hy;rw[(hP y).2 hh]at this;cases this⟩
 ·rw[e];exact .inr ⟨K,x,R,h1,rfl,(hP x).1 h2⟩
theorem Pf {d:District}(hf:d.farms.length≤600)(hr:d.rights.length≤256){b:List Deed}(hb:Asc b)(x:Deed):nk d b x=b_ d (pH b) x:=by
 unfold nk b_;have hh:gk d x=((aq x.right 0 (i64.wrap ((d.rights.length:Int) - 1)))&&((d.rights.getD (Int.toNat x.right) (default:Right)).kind==1)&&(aq x.since 0 (i64.wrap ((d.farms.length:Int) - 1)))):=by
  unfold gk;rw[Bool.eq_iff_iff];simp only[Bool.and_eq_true,decide_eq_true_eq];rw[sL _ (by omega),sL _ (by omega)];constructor
  ·rintro⟨⟨⟨⟨a,b⟩,c⟩,e⟩,f⟩;exact⟨⟨⟨a,b⟩,c⟩,e,f⟩
  ·rintro⟨⟨⟨a,b⟩,c⟩,e,f⟩;exact⟨⟨⟨⟨a,b⟩,c⟩,e⟩,f⟩
 have hto:((decide (x.to≥0))&&(decide (x.to< (d.farms.length:Int))))=aq x.to 0 (i64.wrap ((d.farms.length:Int) - 1)):=by
  rw[Bool.eq_iff_iff,sL _ (by omega),Bool.and_eq_true,decide_eq_true_eq,decide_eq_true_eq]
 have hrg:(((((((decide (x.no<0)) ||(decide (x.no > 1048576))) ||(decide (x.at_<0))) ||(decide (x.at_ > 4096))) ||(decide (x.known<0))) ||(decide (x.known > 1048576))))=(((!(aq x.no 0 1048576)) ||(!(aq x.at_ 0 4096))) ||(!(aq x.known 0 1048576))):=by
  rw[Bool.eq_iff_iff];simp only[Bool.or_eq_true,decide_eq_true_eq,Bool.not_eq_true',←Bool.not_eq_true,rb];omega
 rw[hrg,hh];cases hg:(((!(aq x.no 0 1048576)) ||(!(aq x.at_ 0 4096))) ||(!(aq x.known 0 1048576)))with
 |true=>simp
 |false=>
  simp only[Bool.false_or,cond_false];unfold iv fm;simp only[Bool.true_or,Bool.false_or,Bool.true_and];by_cases k1:x.kind=1
  ·rw[show(x.kind==1)=true by rw[k1];rfl];simp only[cond_true];rw[←hto];cases(x.parts.length:Int) ==0 <;>cases x.of_==0 <;>simp[Bool.and_assoc]
  ·rw[show(x.kind==1)=false by simpa using k1];by_cases k2:x.kind=2
   ·rw[show(x.kind==2)=true by rw[k2];rfl];simp only[cond_true,cond_false];rw[My hf];cases x.to==0 <;>cases x.of_==0 <;>simp
   ·rw[show(x.kind==2)=false by simpa using k2];by_cases k3:x.kind=3
    ·rw[show(x.kind==3)=true by rw[k3];rfl];simp only[cond_true,cond_false];cases x.to==0 <;>cases(x.parts.length:Int) ==0 <;>cases x.of_==0 <;>simp
    ·rw[show(x.kind==3)=false by simpa using k3];by_cases k4:x.kind=4
     ·rw[show(x.kind==4)=true by rw[k4];rfl];simp only[cond_true,cond_false,Bool.or_true,Bool.and_true];cases hz:((((x.right==0)&&(x.since==0))&&(x.to==0))&&((x.parts.length:Int) ==0))with
      |false=>simp
      |true=>
       simp only[Bool.true_and,Bool.not_true,cond_false];rw[Fv];rcases FB b x.of_ with⟨e,hno⟩ | ⟨K,y,R,e1,e2,e3,e4⟩
       ·rw[e];simp only[show decide ((-1:Int)≥0)=false by decide,Bool.false_and];cases ha:b.any fun y=>y.no==x.of_ with
        |false=>rfl
        |true=>
         rw[List.any_eq_true]at ha;obtain⟨y,hy,hn⟩:=ha;have hn:y.no=x.of_:=by simpa using hn
         have hk:y.kind=4:=Classical.byContradiction fun hk=>hno y hy ⟨hn,hk⟩;rw[←hn,sX hb hy,hk];rfl
       ·have hy:y∈b:=by rw[e1];simp
        have hg2:b.getD (Int.toNat (K.length:Int)) default=y:=by rw[Int.toNat_natCast,e1];simp[List.getD_eq_getElem?_getD]
        have ha:(b.any fun y=>y.no==x.of_)=true:=List.any_eq_true.2 ⟨y,hy,by simp[e3]⟩;rw[e2,hg2,ha,←e3,sX hb hy,decide_eq_true (by omega:(K.length:Int)≥0)];simp[e4]
     ·rw[show(x.kind==4)=false by simpa using k4];simp
theorem AH (d:District)(x:Deed):gL d x:=fun h=>by
 simp only[Bool.and_eq_true,decide_eq_true_eq]at h;omega
theorem JY (d:District)(b:List Deed)(x:Deed):mH d b x:=fun _=>⟨fun _ _=>AH _ _,fun _=>⟨fun _=>⟨fun _=>AH _ _,fun _=>Pe _ _⟩,fun _=>⟨fun _ _=>AH _ _,fun _ _ h=>by
 simp only[Bool.and_eq_true,decide_eq_true_eq]at h;rcases FB b x.of_ with⟨e,_⟩ | ⟨K,y,R,e1,e2,_⟩
 ·rw[e]at h;omega
 ·rw[e2,e1];simp;omega⟩⟩⟩
theorem Mz (l:List Deed):mg l=((decide ((l.length:Int) > 512)) ||aB l):=by
 unfold mg;cases decide ((l.length:Int) > 512)with
 |true=>rfl
 |false=>
  simp only[cond_false,Bool.false_or];cases hr:am (iq l) l.length 0 ()with
  |inr s=>
   have h:=dS.1 hr
   symm
   refine(mL l).2 fun x hx=>?_;obtain⟨j,hj,rfl⟩:=List.mem_iff_getElem.1 hx;have:=h j hj;unfold iq at this;rw[dX l _ hj]at this;cases hc:decide (((l[j].parts).length:Int) > 16)with
   |true=>rw[hc]at this;cases this
   |false=>rw[decide_eq_false_iff_not]at hc;omega
  |inl y=>
   cases hc:aB l with
   |true=>rfl
   |false=>
    have h:=(mL l).1 hc;have:am (iq l) l.length 0 ()=.inr ():=dS.2 fun j hj=>by
     unfold iq;rw[dX l _ hj,decide_eq_false (by have:=h l[j] (List.getElem_mem hj);omega)];rfl
    rw[this]at hr;cases hr
theorem tA (d:District)(l:List Deed):jX d l:=⟨JK d,fun _ _=>iF _ _ _ fun j s _ hj hl=>⟨fun h=>by
  rw[decide_eq_true_eq]at h;rw[aP (by omega) (by unfold aU at *;omega)];omega,fun _=>⟨by omega,by omega,by omega⟩,fun _=>JY _ _ _⟩⟩
theorem ID (d:District)(l:List Deed):gl d l=aC d l:=by
 unfold gl aC;rw[←L7 d,Mz];cases h1:(ay d !=0)with
 |true=>rfl
 |false=>
  simp only[cond_false];cases h2:((decide ((l.length:Int) > 512)) ||aB l)with
  |true=>rfl
  |false=>
   simp only[cond_false];have hr:=kT (d:=d) h1;rw[Bool.or_eq_false_iff,decide_eq_false_iff_not]at h2;have key:=AG (f:=i6 d l) (g:=dw d l) (fun j _ t=>t=pH (l.take j)∧Asc (l.take j)) l.length 0 () [] ⟨rfl,by rw[List.take_zero];exact List.Pairwise.nil⟩ (fun j s t _ hj ⟨j1,j2⟩ =>by
    rw[Nat.zero_add]at hj;subst j1;unfold i6 dw;rw[List.drop_zero,Pf hr.farms hr.rights j2];cases hc:(((decide ((j:Int) > 0))&&(decide ((l.getD j (default:Deed)).no≤(l.getD (Int.toNat (i64.wrap ((j:Int) - 1))) (default:Deed)).no))) ||(!(b_ d (pH (l.take j)) (l.getD j (default:Deed)))))with
    |true=>exact .inl ⟨(),(),by first|rfl|trivial,by first|rfl|trivial⟩
    |false=>
     refine .inr ⟨(),_,rfl,rfl,by rw[bo l default hj,tw],?_⟩;rw[bo l default hj];refine List.pairwise_append.2 ⟨j2,List.pairwise_singleton _ _,fun y hy z hz=>?_⟩;simp only[List.mem_singleton]at hz;subst hz;rw[Bool.or_eq_false_iff,Bool.and_eq_false_iff,decide_eq_false_iff_not,decide_eq_false_iff_not]at hc;obtain⟨i,hi,rfl⟩:=List.mem_iff_getElem.1 hy;rw[List.length_take]at hi;have h0:0<j:=by omega
     rw[xc (by omega) h0,Int.toNat_natCast]at hc;have h3:(l.getD (j - 1) default).no< (l.getD j default).no:=by omega
     have h4:(l.take j)[i].no≤(l.getD (j - 1) default).no:=by
      rcases Nat.lt_or_ge i (j - 1)with h5|h5
      ·have:=List.pairwise_iff_getElem.1 j2 i (j - 1) (by rw[List.length_take];omega) (by rw[List.length_take];omega) h5;rw[dX l _ (by omega)];rw[List.getElem_take,List.getElem_take]at this;rw[List.getElem_take];omega
      ·have e:i=j - 1:=by omega
       subst e;rw[dX l _ (by omega),List.getElem_take];exact Int.le_refl _
     omega)
   rcases key with⟨a,b,q1,q2⟩ | ⟨s,t,q1,q2,_⟩
   ·rw[q1,q2]
   ·rw[q1,q2]
def nS (l:List Part)(n:Int)(g:Int→Int):Int→Int:=l.foldl (fun g p=>gA g p.farm (g p.farm+loP p n)) g
def lL (l:List Part)(g:Int→Int):Int→Int:=l.foldl (fun g p=>gA g p.farm (g p.farm+1)) g
def xj (l:List Part)(n:Int)(g:Int→Int):Int→Int:=lL (l.take (n - cb l n).toNat) (nS l n g)
def uY (x:Deed)(g:Int→Int):Int→Int:=
 if g x.since=0 then g else
 if x.kind=1 then gA (gA g x.since 0) x.to (gA g x.since 0 x.to+g x.since)else
 if x.kind=2 then xj x.parts (g x.since) (gA g x.since 0)else gA g x.since 0
theorem Ch (l:List Part)(p:Part)(n:Int)(g:Int→Int):nS (l++[p]) n g=gA (nS l n g) p.farm (nS l n g p.farm+loP p n):=by
 unfold nS;rw[List.foldl_append];rfl
theorem AI (l:List Part)(p:Part)(g:Int→Int):lL (l++[p]) g=gA (lL l g) p.farm (lL l g p.farm+1):=by
 unfold lL;rw[List.foldl_append];rfl
theorem rj (l:List Part)(p:Part)(n:Int):cb (l++[p]) n=cb l n+loP p n:=by
 unfold cb;simp
def PFit (F:Nat)(l:List Part):Prop:= ∀ p∈l,0≤p.farm∧p.farm< (F:Int)∧RatioOk p.share∧0<p.share.n
theorem PartsOk.fit {d:District}{l:List Part}(h:PartsOk d l):PFit d.farms.length l:=fun p hp=>⟨(h.part p hp).f0,(h.part p hp).f1,(h.part p hp).share,(h.part p hp).pos⟩
theorem oz {F:Nat}{n:Int}(h0:0≤n):∀ (l:List Part) (g:Int→Int) (M:Int),PFit F l→Good F M g→Good F (M+cb l n) (nS l n g)∧tot F (nS l n g)=tot F g+cb l n
 | [],g,M,_,hg=>by simpa[nS,cb]using hg
 |p::l,g,M,hl,hg=>by
  obtain⟨a,b,c,e⟩:=hl p List.mem_cons_self;have hlo:=Fz c e h0;have hgf:=hg.nn p.farm;have h1:Good F (M+loP p n) (gA g p.farm (g p.farm+loP p n)):=hg.put a b (by omega) (by have:=hg.tot;omega);obtain⟨q1,q2⟩:=oz h0 l _ _ (fun q hq=>hl q (List.mem_cons_of_mem _ hq)) h1;have e1:cb (p::l) n=loP p n+cb l n:=by simp[cb]
  rw[ri g p.farm _ F a b]at q2;rw[e1];refine⟨by rw[show M+(loP p n+cb l n)=M+loP p n+cb l n by omega];exact q1,?_⟩;show tot F (nS l n (gA g p.farm (g p.farm+loP p n)))=_;rw[q2];omega
theorem rk {F:Nat}:∀ (l:List Part) (g:Int→Int) (M:Int),PFit F l→Good F M g→Good F (M+l.length) (lL l g)∧tot F (lL l g)=tot F g+l.length
 | [],g,M,_,hg=>by simpa[lL]using hg
 |p::l,g,M,hl,hg=>by
  obtain⟨a,b,c,e⟩:=hl p List.mem_cons_self;have hgf:=hg.nn p.farm;have h1:Good F (M+1) (gA g p.farm (g p.farm+1)):=hg.put a b (by omega) (by have:=hg.tot;omega);obtain⟨q1,q2⟩:=rk l _ _ (fun q hq=>hl q (List.mem_cons_of_mem _ hq)) h1;rw[ri g p.farm _ F a b]at q2;simp only[List.length_cons];refine⟨by rw[show M+((l.length+1:Nat):Int)=M+1+(l.length:Int) by omega];exact q1,?_⟩;show tot F (lL l (gA g p.farm (g p.farm+1)))=_;rw[q2];omega
theorem PFit.take {F:Nat}{l:List Part}(h:PFit F l)(k:Nat):PFit F (l.take k):=fun p hp=>h p (List.mem_of_mem_take hp)
theorem Hm {d:District}{l:List Part}(h:PartsOk d l){n M:Int}(h0:0≤n){g:Int→Int}(hg:Good d.farms.length M g):Good d.farms.length (M+n) (xj l n g)∧tot d.farms.length (xj l n g)=tot d.farms.length g+n:=by
 obtain⟨q1,q2⟩:=oz h0 l g M h.fit hg;obtain⟨r1,r2⟩:=rk (l.take (n - cb l n).toNat) _ _ (h.fit.take _) q1;obtain⟨l1,l2⟩:=DF h n;have e:((l.take (n - cb l n).toNat).length:Int)=n - cb l n:=by rw[List.length_take];omega
 rw[e]at r1 r2;refine⟨by rw[show M+n=M+cb l n+(n - cb l n) by omega];exact r1,?_⟩;show tot _ (lL _ _)=_;rw[r2,q2];omega
theorem FC {d:District}{x:Deed}(hx:Fit d x)(hk:x.kind≠4){L:Int}{g:Int→Int}(hg:Good d.farms.length L g):Good d.farms.length L (uY x g)∧(x.kind≠3→tot d.farms.length (uY x g)=tot d.farms.length g):=by
 obtain⟨_,_,_,s0,s1⟩:=hx.held hk;unfold uY;by_cases hn:g x.since=0
 ·rw[if_pos hn];exact⟨hg,fun _=>rfl⟩
 rw[if_neg hn];have hnn:=hg.nn x.since;have hT:=hg.tot;have g1:Good d.farms.length (L - g x.since) (gA g x.since 0):=hg.put s0 s1 (Int.le_refl _) (by omega);have t1:=ri g x.since 0 d.farms.length s0 s1;by_cases k1:x.kind=1
 ·rw[if_pos k1];obtain⟨a,b,c⟩:=hx.pass k1;have h1:=g1.nn x.to;have t2:=ri (gA g x.since 0) x.to (gA g x.since 0 x.to+g x.since) d.farms.length a b;exact⟨g1.put a b (by omega) (by omega),fun _=>by omega⟩
 rw[if_neg k1];by_cases k2:x.kind=2
 ·rw[if_pos k2];obtain⟨q1,q2⟩:=Hm (hx.split k2) hnn g1;rw[show L - g x.since+g x.since=L by omega]at q1;exact⟨q1,fun _=>by omega⟩
 ·rw[if_neg k2];refine⟨⟨g1.nn,g1.sup,by have:=g1.tot;omega⟩,fun k3=>?_⟩;rcases hx.kind with e|e|e|e <;>omega
abbrev BM:=List (RegisterTitle×Int)
abbrev RT (r f:Int):RegisterTitle:= { right:=r,farm:=f}
def bk (m:BM):Int→Int→Int:=fun r f=>b9 .registerTitle .int m (RT r f)
theorem IE {a b c e:Int}:RT a b=RT c e↔a=c∧b=e:=by simp[RT]
theorem DG (m:BM)(r f v:Int):bk (fS .registerTitle .int m (RT r f) v)=fun r'=>if r'=r then gA (bk m r) f v else bk m r':=by
 funext r' f'
 unfold bk;rw[kU];by_cases h:r'=r
 ·subst h;rw[if_pos rfl];unfold gA;by_cases h2:f'=f
  ·subst h2;simp
  ·rw[if_neg (fun e=>h2 (IE.1 e).2),if_neg h2]
 ·rw[if_neg (fun e=>h (IE.1 e).1),if_neg h]
theorem Ss (m:BM)(hN:(im m).Nodup)(r f:Int):bk (mO .registerTitle .int m (RT r f))=fun r'=>if r'=r then gA (bk m r) f 0 else bk m r':=by
 funext r' f'
 unfold bk b9 mO;have e:=(xi (RT r f) m hN).2.2 (RT r' f');have e':fR (wA m (RT r f)) (RT r' f')=if RT r' f'=RT r f then none else fR m (RT r' f'):=e;by_cases h:r'=r
 ·subst h;rw[if_pos rfl];unfold gA;by_cases h2:f'=f
  ·subst h2;rw[e',if_pos rfl,if_pos rfl];rfl
  ·rw[e',if_neg (fun e=>h2 (IE.1 e).2),if_neg h2]
 ·rw[if_neg h,e',if_neg (fun e=>h (IE.1 e).1)]
theorem Good.le30 {F:Nat}{L:Int}{g:Int→Int}(h:Good F L g)(hL:L≤2147483648)(f:Int):0≤g f∧g f≤2147483648:=by
 have h1:=h.nn f;by_cases e:g f=0
 ·omega
 ·obtain⟨a,b⟩:=h.sup f e;have:=AE h.nn F f a b;have:=h.tot;omega
theorem JZ {d:District}{x:Deed}(hx:PartsOk d x.parts){n:Int}(h0:0≤n)(h1:n≤1073741824){m:BM}(hN:(im m).Nodup){M:Int}(hM:M+n≤2147483648)(hg:Good d.farms.length M (bk m x.right)):
  dQ x n m∧(im (co x n m)).Nodup∧bk (co x n m)=fun r=>if r=x.right then xj x.parts n (bk m r)else bk m r:=by
 obtain⟨l1,l2⟩:=DF hx n;obtain⟨⟨m1,lf⟩,e1,a1,a2,a3⟩:=iJ (step:=bC x n) (fun k (s:BM×Int) =>(im s.1).Nodup∧(bk s.1=fun r=>if r=x.right then nS (x.parts.take k) n (bk m r)else bk m r)∧s.2=n - cb (x.parts.take k) n) x.parts.length 0 (m,n) ⟨hN,by funext r;by_cases h:r=x.right <;>simp[h,nS],by simp[cb]⟩ (fun j s _ hj ⟨j1,j2,j3⟩ =>by
  rw[Nat.zero_add]at hj;have hm:x.parts.getD j default∈x.parts:=by rw[dX _ _ hj];exact List.getElem_mem _
  obtain⟨f0,f1,f2,f3⟩:=hx.fit _ hm;have elo:(fb (x.parts.getD j default).share n).1=loP (x.parts.getD j default) n:=(Mv f2 h0 h1).1;have hlo:=Fz f2 f3 h0;obtain⟨q1,q2⟩:=oz h0 (x.parts.take j) _ _ (hx.fit.take _) hg;have hs:∀ k,0≤cb (x.parts.take k) n∧cb (x.parts.take k) n≤cb x.parts n:=fun k=>by
   have key:∀ l:List Part,PFit d.farms.length l→0≤cb l n:=fun l=>by
    induction l with
    |nil=>intro _;simp[cb]
    |cons p r ih=>
     intro hp;obtain⟨_,_,c,e⟩:=hp p List.mem_cons_self;have:=Fz c e h0;have:=ih fun q hq=>hp q (List.mem_cons_of_mem _ hq);have e:cb (p::r) n=loP p n+cb r n:=by simp[cb]
     omega
   have h1:=key _ (hx.fit.take k);have h2:=key (x.parts.drop k) fun p hp=>hx.fit p (List.mem_of_mem_drop hp);have h3:cb x.parts n=cb (x.parts.take k) n+cb (x.parts.drop k) n:=by
    conv=>lhs;rw[←List.take_append_drop k x.parts]
    unfold cb;rw[List.map_append,List.sum_append]
   omega
  have hsj:=hs j;have hsj1:=hs (j+1);rw[bo _ default hj,rj]at hsj1;have hv:=q1.le30 (by omega) (x.parts.getD j default).farm;have ebk:b9 .registerTitle .int s.1 (RT x.right (x.parts.getD j default).farm)=nS (x.parts.take j) n (bk m x.right) (x.parts.getD j default).farm:=by
   have:=congrFun (congrFun j2 x.right) (x.parts.getD j default).farm;simpa[bk]using this
  refine⟨_,rfl,?_,?_,?_⟩
  ·exact(qB _ _ _ j1).1
  ·simp only[elo];rw[ebk,aP (by omega) (by omega),DG,j2];funext r
   by_cases h:r=x.right
   ·subst h;simp only[if_true];rw[bo _ default hj,Ch]
   ·simp only[if_neg h]
  ·simp only[elo,j3];rw[aP (by omega) (by omega),bo _ default hj,rj];omega)
 rw[Nat.zero_add,List.take_length]at a2 a3;simp only at a1 a2 a3;have hlf:0≤lf∧lf≤(x.parts.length:Int):=by omega
 obtain⟨q1,q2⟩:=oz h0 x.parts _ _ hx.fit hg;have tk:(x.parts.take lf.toNat).drop 0=x.parts.take lf.toNat:=by simp
 have tkl:(x.parts.take lf.toNat).length=lf.toNat:=by rw[List.length_take];omega
 obtain⟨m2,e2,b1,b2⟩:=iJ (step:=fD x (m1,lf)) (fun k (s:BM) =>(im s).Nodup∧(bk s=fun r=>if r=x.right then lL ((x.parts.take lf.toNat).take k) (nS x.parts n (bk m r))else bk m r)) lf.toNat 0 m1 ⟨a1,by rw[a2];funext r;by_cases h:r=x.right <;>simp[h,lL]⟩ (fun j s _ hj ⟨j1,j2⟩ =>by
  rw[Nat.zero_add]at hj;have hj':j< (x.parts.take lf.toNat).length:=by omega
  have hm:(x.parts.take lf.toNat).getD j default∈x.parts.take lf.toNat:=by rw[dX _ _ hj'];exact List.getElem_mem _
  obtain⟨r1,r2⟩:=rk ((x.parts.take lf.toNat).take j) _ _ ((hx.fit.take _).take _) q1;have hlen:((x.parts.take lf.toNat).take j).length=j:=by rw[List.length_take];omega
  have hv:=r1.le30 (by omega) ((x.parts.take lf.toNat).getD j default).farm;have ebk:b9 .registerTitle .int s (RT x.right ((x.parts.take lf.toNat).getD j default).farm)=lL ((x.parts.take lf.toNat).take j) (nS x.parts n (bk m x.right)) ((x.parts.take lf.toNat).getD j default).farm:=by
   have:=congrFun (congrFun j2 x.right) ((x.parts.take lf.toNat).getD j default).farm;simpa[bk]using this
  refine⟨_,rfl,?_,?_⟩
  ·exact(qB _ _ _ j1).1
  ·simp only[tk];rw[ebk,aP (by omega) (by omega),DG,j2];funext r
   by_cases h:r=x.right
   ·subst h;simp only[if_true];rw[bo _ default hj',AI]
   ·simp only[if_neg h])
 rw[Nat.zero_add]at b2;have e2':am (fD x (m1,lf)) ((x.parts.take lf.toNat).drop 0).length 0 m1=.inr m2:=by rw[tk,tkl];exact e2
 have eR:co x n m=m2:=by
  unfold co;rw[e1];simp only[e2']
 refine⟨fun _ z hz=>?_,?_,?_⟩
 ·rw[e1]at hz;cases hz;exact⟨by omega,hlf.1,hlf.2⟩
 ·rw[eR];exact b1
 ·rw[eR,b2];funext r
  by_cases h:r=x.right
  ·simp only[if_pos h];unfold xj;rw[←a3,List.take_take,Nat.min_self]
  ·simp only[if_neg h]
def jE (x:Deed)(B:Int→Int→Int):Int→Int→Int:=fun r=>if r=x.right then uY x (B r)else B r
def lM (ds:List Deed)(B:Int→Int→Int):Int→Int→Int:=ds.foldl (fun B x=>jE x B) B
def Pg:List Deed→(Int→Int→Int)→List Int
 | [],_=>[]
 |x::r,B=>(if B x.right x.since=0 then [x.no]else [])++Pg r (jE x B)
structure MapOk (d:District)(m:BM):Prop where
 nodup:(im m).Nodup
 good:∀ r,∃ L,L≤1073741824∧Good d.farms.length L (bk m r)
theorem MapOk.le {d:District}{m:BM}(h:MapOk d m)(r f:Int):0≤bk m r f∧bk m r f≤1073741824:=by
 obtain⟨L,h1,h2⟩:=h.good r;have:=h2.nn f;by_cases e:bk m r f=0
 ·omega
 ·obtain⟨a,b⟩:=h2.sup f e;have:=AE h2.nn _ f a b;have:=h2.tot;omega
theorem Ph {d:District}{ds:List Deed}{x:Deed}(hx:Fit d x)(hk:x.kind≠4){e:List Int}{m:BM}(hm:MapOk d m)(he:(e.length+1)*8≤d5):
  dC ds x (e,m)∧∃ m',bW ds x (e,m)=.inr (e++(if bk m x.right x.since=0 then [x.no]else []),m')∧MapOk d m'∧bk m'=jE x (bk m):=by
 obtain⟨r0,r1,r2,s0,s1⟩:=hx.held hk;have hv:=hm.le x.right x.since;have ebk:b9 .registerTitle .int m (RT x.right x.since)=bk m x.right x.since:=rfl;have hdel:=xi (RT x.right x.since) m hm.nodup;have hstep:∀ m':BM,(im m').Nodup→bk m'=jE x (bk m)→MapOk d m':=fun m' hN hb=>by
  refine⟨hN,fun r=>?_⟩;obtain⟨L,h1,h2⟩:=hm.good r;refine⟨L,h1,?_⟩;rw[hb];show Good _ _ (if r=x.right then uY x (bk m r)else bk m r);split
  ·exact(FC hx hk h2).1
  ·exact h2
 have hlen:(e++[x.no]).length=e.length+1:=by simp
 unfold dC bW;simp only[ebk,hlen];by_cases hn:bk m x.right x.since=0
 ·have b0:(bk m x.right x.since==0)=true:=by simp[hn]
  rw[b0,if_pos hn];refine⟨⟨fun _=>he,(fun h=>by cases h)⟩,m,rfl,hm,?_⟩;funext r
  unfold jE;split
  ·rename_i h;subst h;unfold uY;rw[if_pos hn]
  ·rfl
 ·have b0:(bk m x.right x.since==0)=false:=by simpa using hn
  rw[b0,if_neg hn,List.append_nil];simp only[cond_false];have edel:=Ss m hm.nodup x.right x.since;have kdel:(im (mO .registerTitle .int m (RT x.right x.since))).Nodup:=hdel.1;have egood:Good d.farms.length (1073741824 - bk m x.right x.since) (bk (mO .registerTitle .int m (RT x.right x.since)) x.right):=by
   obtain⟨L,h1,h2⟩:=hm.good x.right;rw[edel];simp only[if_true];exact h2.put s0 s1 (Int.le_refl _) (by have:=h2.tot;omega)
  by_cases k1:x.kind=1
  ·have b1:(x.kind==1)=true:=by simp[k1]
   rw[b1];simp only[cond_true];obtain⟨a,b,c⟩:=hx.pass k1;have hto:=egood.le30 (by omega) x.to;have e2:b9 .registerTitle .int (mO .registerTitle .int m (RT x.right x.since)) (RT x.right x.to)=gA (bk m x.right) x.since 0 x.to:=by
    have:=congrFun (congrFun edel x.right) x.to;simpa[bk]using this
   have hto':0≤gA (bk m x.right) x.since 0 x.to∧gA (bk m x.right) x.since 0 x.to≤2147483648:=by
    rw[edel]at hto;simpa using hto
   refine⟨⟨(fun h=>by cases h),(fun _ h=>by cases h)⟩,_,rfl,?_⟩;have hb:bk (dB x (bk m x.right x.since) (mO .registerTitle .int m (RT x.right x.since)))=jE x (bk m):=by
    unfold dB;rw[e2,aP (by omega) (by omega),DG,edel];funext r
    unfold jE;by_cases h:r=x.right
    ·subst h;simp only[if_true];unfold uY;rw[if_neg hn,if_pos k1]
    ·simp only[if_neg h]
   exact⟨hstep _ (by unfold dB;exact(qB _ _ _ kdel).1) hb,hb⟩
  ·have b1:(x.kind==1)=false:=by simpa using k1
   rw[b1];simp only[cond_false];by_cases k2:x.kind=2
   ·have b2:(x.kind==2)=true:=by simp[k2]
    rw[b2];simp only[cond_true];obtain⟨p1,p2,p3⟩:=JZ (hx.split k2) hv.1 hv.2 kdel (M:=1073741824 - bk m x.right x.since) (by omega) egood;refine⟨⟨(fun h=>by cases h),fun _ _=>⟨fun _=>p1,(fun h=>by cases h)⟩⟩,_,rfl,?_⟩;have hb:bk (co x (bk m x.right x.since) (mO .registerTitle .int m (RT x.right x.since)))=jE x (bk m):=by
     rw[p3,edel];funext r
     unfold jE;by_cases h:r=x.right
     ·subst h;simp only[if_true];unfold uY;rw[if_neg hn,if_neg k1,if_pos k2]
     ·simp only[if_neg h]
    exact⟨hstep _ p2 hb,hb⟩
   ·have b2:(x.kind==2)=false:=by simpa using k2
    rw[b2];simp only[cond_false];have k3:x.kind=3:=by rcases hx.kind with h|h|h|h <;>omega
    have b3:(x.kind==3)=true:=by simp[k3]
    rw[b3];simp only[cond_true];refine⟨⟨(fun h=>by cases h),fun _ _=>⟨(fun h=>by cases h),(fun _ h=>by cases h)⟩⟩,_,rfl,?_⟩;have hb:bk (mO .registerTitle .int m (RT x.right x.since))=jE x (bk m):=by
     rw[edel];funext r
     unfold jE;by_cases h:r=x.right
     ·subst h;simp only[if_true];unfold uY;rw[if_neg hn,if_neg k1,if_neg k2]
     ·simp only[if_neg h]
    exact⟨hstep _ kdel hb,hb⟩
theorem Ci {d:District}(ds:List Deed):∀ (l:List Deed),(∀ x∈l,Fit d x∧x.kind≠4)→∀ (e:List Int) (m:BM),MapOk d m→(e.length+l.length)*8≤d5→
  okL (bW ds) (dC ds) l (e,m)∧∃ m',eu (bW ds) l (e,m)=.inr (e++Pg l (bk m),m')∧MapOk d m'∧bk m'=lM l (bk m)
 | [],_,e,m,hm,_=>⟨trivial,m,by simp[eu,Pg],hm,rfl⟩
 |x::l,h,e,m,hm,hB=>by
  simp only[List.length_cons]at hB;obtain⟨h1,h2⟩:=h x List.mem_cons_self;obtain⟨q1,m1,q2,q3,q4⟩:=Ph (ds:=ds) h1 h2 (e:=e) hm (by omega);have hlen:(e++(if bk m x.right x.since=0 then [x.no]else [])).length≤e.length+1:=by split <;>simp
  obtain⟨r1,m2,r2,r3,r4⟩:=Ci ds l (fun y hy=>h y (List.mem_cons_of_mem _ hy)) (e++(if bk m x.right x.since=0 then [x.no]else [])) m1 q3 (by omega);refine⟨⟨q1,fun s hs=>by rw[q2]at hs;cases hs;exact r1⟩,m2,?_,r3,?_⟩
  ·simp only[eu,q2];rw[r2,q4,List.append_assoc];rfl
  ·rw[r4,q4];rfl
def B0 (d:District):Int→Int→Int:=fun r f=>if 0≤r∧r< (d.rights.length:Int)∧(d.rights.getD r.toNat default).kind=1∧(d.rights.getD r.toNat default).farm=f then(d.rights.getD r.toNat default).litres else 0
structure TakeOk (d:District)(x:Right):Prop where
 f0:0≤x.farm
 f1:x.farm< (d.farms.length:Int)
 l0:1≤x.litres
 l1:x.litres≤1073741824
theorem wp {d:District}(h:ay d=0){k:Nat}(hk:k<d.rights.length)(ht:(d.rights.getD k default).kind=1):TakeOk d (d.rights.getD k default):=by
 have:=((sK d).1 h).2.2.2.2.2.2.2.1 k hk;unfold cT at this;rw[fB]at this;have h2:ew d (d.rights.getD k default)=true:=by
  cases h3:ew d (d.rights.getD k default)with
  |true=>rfl
  |false=>rw[h3]at this;cases this
 unfold ew at h2;cases h4:((!(bA (d.rights.getD k default).farm (d.farms.length:Int))) ||(!(bA (d.rights.getD k default).reach (d.reaches.length:Int)))) ||(!(ar ([0,(d.rights.getD k default).since,(d.rights.getD k default).to,(i64.wrap (d.hours - 1))])))with
 |true=>rw[h4]at h2;cases h2
 |false=>
  rw[h4,show((d.rights.getD k default).kind==1)=true by rw[ht];rfl]at h2;simp only[cond_true,cond_false,Bool.and_eq_true]at h2;simp only[Bool.or_eq_false_iff,Bool.not_eq_false']at h4;have h5:=h4.1.1;unfold bA at h5;simp only[Bool.and_eq_true,decide_eq_true_eq]at h5;have h6:=wa h2.1.2;exact⟨by omega,by omega,by omega,by omega⟩
theorem Su {d:District}(h:ay d=0)(r:Int):∃ L,L≤1073741824∧Good d.farms.length L (B0 d r):=by
 by_cases hr:0≤r∧r< (d.rights.length:Int)∧(d.rights.getD r.toNat default).kind=1
 ·have ht:=wp h (k:=r.toNat) (by omega) hr.2.2;have hl:=ht.l0;refine⟨(d.rights.getD r.toNat default).litres,ht.l1,?_⟩;have e:B0 d r=gA (fun _=>0) (d.rights.getD r.toNat default).farm (d.rights.getD r.toNat default).litres:=by
   funext f
   unfold B0 gA;by_cases hf:f=(d.rights.getD r.toNat default).farm
   ·rw[if_pos ⟨hr.1,hr.2.1,hr.2.2,hf.symm⟩,if_pos hf]
   ·rw[if_neg (fun h=>hf h.2.2.2.symm),if_neg hf]
  have t0:∀ n,tot n (fun _=>0)=0:=fun n=>by
   induction n with
   |zero=>rfl
   |succ n ih=>unfold tot;rw[ih];rfl
  rw[e];exact Good.put (L:=0) ⟨fun _=>Int.le_refl _,fun f hf=>absurd rfl hf,by rw[t0];exact Int.le_refl _⟩ ht.f0 ht.f1 (by omega) (by rw[t0];omega)
 ·refine⟨0,by omega,?_⟩;have e:B0 d r=fun _=>0:=by
   funext f
   unfold B0;rw[if_neg (fun h=>hr ⟨h.1,h.2.1,h.2.2.1⟩)]
  have t0:∀ n,tot n (fun _=>0)=0:=fun n=>by
   induction n with
   |zero=>rfl
   |succ n ih=>unfold tot;rw[ih];rfl
  rw[e];exact⟨fun _=>Int.le_refl _,fun f hf=>absurd rfl hf,by rw[t0];exact Int.le_refl _⟩
theorem MA {d:District}(h:ay d=0):∃ m,am (bV d) d.rights.length 0 []=.inr m∧MapOk d m∧bk m=B0 d:=by
 obtain⟨m,h1,h2,h3⟩:=iJ (step:=bV d) (fun k (m:BM) =>(im m).Nodup∧bk m=fun r f=>if r< (k:Int)then B0 d r f else 0) d.rights.length 0 ([]:BM) ⟨by simp[im],by
   funext r f
   by_cases hr:r< ((0:Nat):Int)
   ·rw[if_pos hr];unfold B0 bk;rw[if_neg (by omega)];rfl
   ·rw[if_neg hr];rfl⟩ (fun j m _ hj ⟨j1,j2⟩ =>by
  rw[Nat.zero_add]at hj;unfold bV;by_cases hk:(d.rights.getD j default).kind=1
  ·rw[show((d.rights.getD j default).kind==1)=true by rw[hk];rfl];refine⟨_,rfl,(qB _ _ _ j1).1,?_⟩;rw[DG,j2];funext r f
   by_cases hr:r=(j:Int)
   ·subst hr;simp only[if_true];unfold gA B0;dsimp only;rw[if_pos (by omega:(j:Int) < ((j+1:Nat):Int)),Int.toNat_natCast];by_cases hf:f=(d.rights.getD j default).farm
    ·rw[if_pos hf,if_pos ⟨by omega,by omega,hk,hf.symm⟩]
    ·rw[if_neg hf,if_neg (by omega),if_neg (fun h=>hf h.2.2.2.symm)]
   ·simp only[if_neg hr];by_cases h2:r< (j:Int)
    ·rw[if_pos h2,if_pos (by omega)]
    ·rw[if_neg h2,if_neg (by omega)]
  ·rw[show((d.rights.getD j default).kind==1)=false by simpa using hk];refine⟨_,rfl,j1,?_⟩;rw[j2];funext r f
   by_cases hr:r=(j:Int)
   ·subst hr;rw[if_neg (by omega),if_pos (by omega)];unfold B0;rw[if_neg (fun h=>hk (by rw[Int.toNat_natCast]at h;exact h.2.2.1))]
   ·by_cases h2:r< (j:Int)
    ·rw[if_pos h2,if_pos (by omega)]
    ·rw[if_neg h2,if_neg (by omega)])
 have e:bk m=B0 d:=by
  rw[h3];funext r f
  split
  ·rfl
  ·unfold B0;rw[if_neg (by omega)]
 refine⟨m,h1,⟨h2,fun r=>?_⟩,e⟩;rw[e];exact Su h r
theorem J0 {d:District}(h:ay d=0){ds:List Deed}(hd:∀ x∈ds,Fit d x∧x.kind≠4)(hl:ds.length≤512):
  iK d ds∧∃ m,dG d ds=(m,yn (Pg ds (B0 d)))∧MapOk d m∧bk m=lM ds (B0 d):=by
 obtain⟨m0,e0,o0,b0⟩:=MA h;obtain⟨q1,m1,q2,q3,q4⟩:=Ci (d:=d) ds ds hd [] m0 o0 (by simp only[List.length_nil];unfold d5;omega);rw[List.nil_append]at q2;rw[b0]at q2 q4;refine⟨fun _ z hz=>?_,m1,?_,q3,q4⟩
 ·rw[e0]at hz;cases hz;refine⟨Mu ds,?_⟩;rw[tz];exact q1
 ·unfold dG;rw[e0,tz];simp only[q2]
def fZ (d:District)(l:List Deed)(hour known:Int):Int→Int→Int:=lM (stS (wo l hour known)) (B0 d)
def rL (d:District)(B:Int→Int→Int)(r f:Nat):Option Holding:=if 0<B r f then some { right:=(r:Int),farm:=(f:Int),litres:=B r f,rank:=(d.rights.getD r default).rank}else none
def gu (d:District)(B:Int→Int→Int)(r:Nat):List Holding:=(List.range d.farms.length).filterMap (rL d B r)
def nA (d:District)(B:Int→Int→Int):List Holding:=(List.range d.rights.length).flatMap (gu d B)
theorem lN {d:District}{B:Int→Int→Int}{r:Nat}{x:Holding}:x∈gu d B r↔∃ f:Nat,f<d.farms.length∧0<B r f∧x= { right:=(r:Int),farm:=(f:Int),litres:=B r f,rank:=(d.rights.getD r default).rank}:=by
 unfold gu rL;rw[List.mem_filterMap];constructor
 ·rintro⟨f,hf,h⟩;rw[List.mem_range]at hf;split at h
  ·rename_i h0;exact⟨f,hf,h0,(Option.some.inj h).symm⟩
  ·cases h
 ·rintro⟨f,hf,h0,rfl⟩;exact⟨f,List.mem_range.2 hf,by rw[if_pos h0]⟩
theorem tB {d:District}{B:Int→Int→Int}{x:Holding}:x∈nA d B↔0≤x.right∧x.right< (d.rights.length:Int)∧0≤x.farm∧x.farm< (d.farms.length:Int)∧0<x.litres∧x.litres=B x.right x.farm∧x.rank=(d.rights.getD x.right.toNat default).rank:=by
 unfold nA;rw[List.mem_flatMap];constructor
 ·rintro⟨r,hr,hx⟩;rw[List.mem_range]at hr;obtain⟨f,hf,h0,rfl⟩:=lN.1 hx;exact⟨by simp only;omega,by simp only;omega,by simp only;omega,by simp only;omega,h0,rfl,by simp only[Int.toNat_natCast]⟩
 ·rintro⟨a,b,c,e,h0,h1,h2⟩;refine⟨x.right.toNat,List.mem_range.2 (by omega),lN.2 ⟨x.farm.toNat,by omega,?_,?_⟩⟩
  ·rw[Int.toNat_of_nonneg a,Int.toNat_of_nonneg c];omega
  ·rw[Int.toNat_of_nonneg a,Int.toNat_of_nonneg c,←h1,←h2]
theorem FD:∀ n:Nat,(List.range n).Pairwise (· < ·):=fun n=>List.pairwise_lt_range
theorem rl (d:District)(B:Int→Int→Int):(nA d B).Pairwise hlt:=by
 unfold nA;rw[List.pairwise_flatMap];refine⟨fun r _=>?_,?_⟩
 ·unfold gu;rw[List.pairwise_filterMap];refine(FD _).imp fun {a b} hab x hx y hy=>?_;unfold rL at hx hy;split at hx
  ·split at hy
   ·cases hx;cases hy;exact Or.inr ⟨rfl,Or.inl (by show(a:Int) < (b:Int);omega)⟩
   ·cases hy
  ·cases hx
 ·refine(FD _).imp fun {a b} hab x hx y hy=>?_;obtain⟨f,_,_,rfl⟩:=lN.1 hx;obtain⟨g,_,_,rfl⟩:=lN.1 hy;simp only[hlt,nP,and_false,or_false];omega
theorem Pi (x:Holding):¬hlt x x:=by simp only[hlt,nP,and_false,or_false];omega
theorem J1 {l:List Holding}(h:l.Pairwise hlt):l.Nodup:=h.imp fun {a b} hab e=>by subst e;exact Pi _ hab
theorem qC {α β:Type}(f:α→List β)(k:Nat):∀ l:List α,(∀ a∈l,(f a).length≤k)→(l.flatMap f).length≤l.length*k
 | [],_=>by simp
 |a::l,h=>by
  have h1:=h a List.mem_cons_self;have h2:=qC f k l fun b hb=>h b (List.mem_cons_of_mem _ hb);rw[List.flatMap_cons,List.length_append,List.length_cons,Nat.add_mul,Nat.one_mul];omega
theorem xk {d:District}(hr:Right1 d)(B:Int→Int→Int):(nA d B).length≤153600:=by
 have h1:=qC (gu d B) 600 (List.range d.rights.length) fun r _=>Nat.le_trans (List.length_filterMap_le _ _) (by rw[List.length_range];exact hr.farms);rw[List.length_range]at h1;have:=hr.rights;show((List.range d.rights.length).flatMap (gu d B)).length≤_;have:d.rights.length*600≤256*600:=Nat.mul_le_mul_right _ this;omega
def oZ (d:District)(k:RegisterTitle×Int):Option Holding:=if 0<k.2 then some { right:=k.1.right,farm:=k.1.farm,litres:=k.2,rank:=(d.rights.getD (Int.toNat k.1.right) (default:Right)).rank}else none
theorem DH (d:District)(l:List Deed)(h n:Int):∀ (L:BM) (s:List Holding),eu (da d l h n) L s=.inr (s++L.filterMap (oZ d))
 | [],s=>by simp[eu]
 |k::L,s=>by
  by_cases hk:0<k.2
  ·have e:oZ d k=some { right:=k.1.right,farm:=k.1.farm,litres:=k.2,rank:=(d.rights.getD (Int.toNat k.1.right) (default:Right)).rank}:=by unfold oZ;rw[if_pos hk]
   rw[List.filterMap_cons_some e];simp only[eu];unfold da;rw[decide_eq_true (show k.2 > 0 from hk)];simp only[cond_true];have:=DH d l h n L (s++[{ right:=k.1.right,farm:=k.1.farm,litres:=k.2,rank:=(d.rights.getD (Int.toNat k.1.right) (default:Right)).rank}]);unfold da at this;rw[this,List.append_assoc];rfl
  ·have e:oZ d k=none:=by unfold oZ;rw[if_neg hk]
   rw[List.filterMap_cons_none e];simp only[eu];unfold da;rw[decide_eq_false (show ¬k.2 > 0 from hk)];simp only[cond_false];have:=DH d l h n L s;unfold da at this;exact this
theorem Hn (d:District)(l:List Deed)(h n:Int):∀ (L:BM) (s:List Holding),(∀ k∈L,0<k.2→0≤k.1.right∧k.1.right< (d.rights.length:Int))→(s.length+(L.filterMap (oZ d)).length)*32≤d5→okL (da d l h n) (jA d l h n) L s
 | [],_,_,_=>trivial
 |k::L,s,hk,hB=>by
  by_cases h0:0<k.2
  ·have e:oZ d k=some { right:=k.1.right,farm:=k.1.farm,litres:=k.2,rank:=(d.rights.getD (Int.toNat k.1.right) (default:Right)).rank}:=by unfold oZ;rw[if_pos h0]
   rw[List.filterMap_cons_some e,List.length_cons]at hB;refine⟨fun _=>⟨hk k List.mem_cons_self h0,by rw[List.length_append];simp only[List.length_cons,List.length_nil];omega⟩,fun s' hs=>?_⟩;unfold da at hs;rw[decide_eq_true (show k.2 > 0 from h0)]at hs;cases hs;exact Hn d l h n L _ (fun q hq=>hk q (List.mem_cons_of_mem _ hq)) (by rw[List.length_append];simp only[List.length_cons,List.length_nil];omega)
  ·have e:oZ d k=none:=by unfold oZ;rw[if_neg h0]
   rw[List.filterMap_cons_none e]at hB;refine⟨fun h=>absurd (of_decide_eq_true h) h0,fun s' hs=>?_⟩;unfold da at hs;rw[decide_eq_false (show ¬k.2 > 0 from h0)]at hs;cases hs;exact Hn d l h n L _ (fun q hq=>hk q (List.mem_cons_of_mem _ hq)) hB
theorem IF {d:District}{r:Int}(hr:¬ (0≤r∧r< (d.rights.length:Int))):∀ (ds:List Deed) (B:Int→Int→Int),(∀ x∈ds,Fit d x∧x.kind≠4)→lM ds B r=B r
 | [],B,_=>rfl
 |x::ds,B,h=>by
  have h1:=h x List.mem_cons_self;have h2:=h1.1.held h1.2;show lM ds (jE x B) r=_;rw[IF hr ds _ fun y hy=>h y (List.mem_cons_of_mem _ hy)];unfold jE;rw[if_neg (by omega)]
theorem wq {d:District}{l:List Deed}(h:Deeds d l)(hour known:Int):∀ x∈stS (wo l hour known),Fit d x∧x.kind≠4:=fun x hx=>by
 have hx:=Pc.1 hx;unfold wo at hx;rw[List.mem_filter]at hx;refine⟨h.fit x hx.1,fun e=>?_⟩;have:=hx.2;rw[e]at this;simp at this
theorem IG (l:List Deed):(stS l).length=l.length:=(qA (sW l)).symm
theorem Pj {α:Type}{a b:List α}(ha:a.Nodup)(hb:b.Nodup)(h:∀ x,x∈a↔x∈b):a.Perm b:=(List.perm_ext_iff_of_nodup ha hb).2 h
theorem J2 {d:District}{l:List Deed}(h:Deeds d l){m:BM}(hm:MapOk d m){hour known:Int}(hb:bk m=fZ d l hour known):
  (m.filterMap (oZ d)).Perm (nA d (fZ d l hour known))∧∀ k∈m,0<k.2→0≤k.1.right∧k.1.right< (d.rights.length:Int):=by
 have hget:∀ (t:RegisterTitle) (v:Int),(t,v)∈m→bk m t.right t.farm=v:=fun t v htv=>by
  have:=(AD hm.nodup).2 htv;show(fR m { right:=t.right,farm:=t.farm}).getD _=v;have e:({ right:=t.right,farm:=t.farm}:RegisterTitle)=t:=rfl;rw[e,this];rfl
 have hrng:∀ k∈m,0<k.2→0≤k.1.right∧k.1.right< (d.rights.length:Int):=fun k hk h0=>by
  rcases Classical.em (0≤k.1.right∧k.1.right< (d.rights.length:Int))with hr|hr
  ·exact hr
  ·have e:=hget k.1 k.2 hk;rw[hb]at e;unfold fZ at e;rw[IF hr _ _ (wq h hour known)]at e;unfold B0 at e;rw[if_neg (fun h=>hr ⟨h.1,h.2.1⟩)]at e;omega
 refine⟨Pj ?_ (J1 (rl _ _)) fun x=>?_,hrng⟩
 ·rw[List.Nodup,List.pairwise_filterMap];have:m.Pairwise fun a b=>a.1≠b.1:=by
   have:=hm.nodup;unfold im at this;rw[List.Nodup,List.pairwise_map]at this;exact this
  refine this.imp fun {a b} hab x hx y hy=>?_;unfold oZ at hx hy;split at hx
  ·split at hy
   ·cases hx;cases hy;intro e;simp only[Holding.mk.injEq]at e;refine hab ?_;obtain⟨⟨a1,a2⟩,a3⟩:=a;obtain⟨⟨b1,b2⟩,b3⟩:=b;simp only at e;simp[e.1,e.2.1]
   ·cases hy
  ·cases hx
 ·rw[List.mem_filterMap,tB];constructor
  ·rintro⟨k,hk,hx⟩;unfold oZ at hx;split at hx
   ·rename_i h0;cases hx;have e:=hget k.1 k.2 hk;obtain⟨a,b⟩:=hrng k hk h0;obtain⟨L,_,hg⟩:=hm.good k.1.right;obtain⟨c,f⟩:=hg.sup k.1.farm (by rw[e];omega);exact⟨a,b,c,f,h0,by simp only;rw[←hb,e],rfl⟩
   ·cases hx
  ·rintro⟨a,b,c,f,h0,h1,h2⟩;rw[←hb]at h1;have h3:fR m (RT x.right x.farm)=some x.litres:=by
    have e:bk m x.right x.farm=(fR m (RT x.right x.farm)).getD 0:=rfl;cases hg:fR m (RT x.right x.farm)with
    |none=>rw[e,hg]at h1;simp at h1;omega
    |some v=>rw[e,hg]at h1;simp at h1;rw[h1]
   refine⟨(RT x.right x.farm,x.litres),(AD hm.nodup).1 h3,?_⟩;unfold oZ;rw[if_pos h0];simp only[Option.some.injEq];rw[←h2]
open Go.Shelf Go.Sort in
theorem Cj {d:District}{B:Int→Int→Int}{s:List Holding}(h:s.Perm (nA d B)):apart bU s∧srt bU s=nA d B:=by
 have e1:∀ x y,ltOf bU x y=true↔hlt x y:=fun x y=>by unfold ltOf;rw[decide_eq_true_eq,Ak]
 have e2:∀ x y,ltOf bU x y=false↔¬hlt x y:=fun x y=>by rw[←e1];simp
 have heq:∀ x∈nA d B,∀ y∈nA d B,¬hlt x y→¬hlt y x→x=y:=fun x hx y hy h1 h2=>by
  obtain⟨_,_,_,_,_,x1,x2⟩:=tB.1 hx;obtain⟨_,_,_,_,_,y1,y2⟩:=tB.1 hy;simp only[hlt,nP,and_false,or_false]at h1 h2;have q1:x.right=y.right:=by omega
  have q2:x.farm=y.farm:=by omega
  obtain⟨a,b,c,e⟩:=x;obtain⟨a',b',c',e'⟩:=y;simp only at q1 q2 x1 x2 y1 y2;subst q1;subst q2;rw[x1,x2,y1,y2]
 refine⟨fun x hx y hy h1 h2=>heq x (h.subset hx) y (h.subset hy) ((e2 x y).1 h1) ((e2 y x).1 h2),?_⟩;unfold srt;have hp:(s.mergeSort fun x y=>!(ltOf bU y x)).Perm (nA d B):=(List.mergeSort_perm _ _).trans h;refine List.Perm.eq_of_pairwise (le:=fun x y=>(!ltOf bU y x)=true) ?_ ?_ ?_ hp
 ·intro x y hx hy h1 h2;simp only[Bool.not_eq_true']at h1 h2;exact heq x (hp.subset hx) y hy ((e2 x y).1 h2) ((e2 y x).1 h1)
 ·refine List.pairwise_mergeSort ?_ ?_ s
  ·intro a b c h1 h2;simp only[Bool.not_eq_true']at h1 h2 ⊢;exact xN.3 c b a h2 h1
  ·intro a b;simp only[Bool.or_eq_true,Bool.not_eq_true'];rcases Classical.em (hlt b a)with hh|hh
   ·refine .inr ((e2 _ _).2 fun h3=>?_);simp only[hlt,nP,and_false,or_false]at hh h3;omega
   ·exact .inl ((e2 _ _).2 hh)
 ·refine(rl d B).imp fun {a b} hab=>?_;simp only[Bool.not_eq_true'];refine(e2 _ _).2 fun h3=>?_;simp only[hlt,nP,and_false,or_false]at hab h3;omega
theorem Ck (d:District)(l:List Deed)(hour known:Int):mN d l hour known∧
  ah d l hour known=if aC d l≠0 then([],aC d l)else if 0≤hour∧hour<d.hours∧0≤known∧known≤1048576 then(nA d (fZ d l hour known),0)else([],1):=by
 by_cases hc:aC d l=0
 ·have hD:=nz hc;have hE:=((tx d l).1 hc).1;have hh:=hD.right.hours;have hh1:=hD.right.hours1;have hw:((!(aq hour 0 (i64.wrap (d.hours - 1)))) ||(!(aq known 0 1048576)))= !decide (0≤hour∧hour<d.hours∧0≤known∧known≤1048576):=by
   rw[aP (by omega) (by omega),←Bool.not_and];congr 1
   rw[Bool.eq_iff_iff,Bool.and_eq_true,rb,rb,decide_eq_true_eq];omega
  obtain⟨c1,c2⟩:=Fx l hour known hD.len;have hlen:(stS (wo l hour known)).length≤512:=by rw[IG];exact Nat.le_trans (List.length_filter_le _ _) hD.len
  obtain⟨f1,m,f2,f3,f4⟩:=J0 hE (wq hD hour known) hlen;obtain⟨p1,p2⟩:=J2 hD f3 (hour:=hour) (known:=known) f4;have key:∀ L:BM,L.Perm m→(L.filterMap (oZ d)).Perm (nA d (fZ d l hour known)):=fun L hL=>(hL.filterMap _).trans p1;have val:ah d l hour known=if 0≤hour∧hour<d.hours∧0≤known∧known≤1048576 then(nA d (fZ d l hour known),0)else([],1):=by
   unfold ah;rw[hc,hw,c2,f2];simp only[bne_self_eq_false,cond_false];by_cases hg:0≤hour∧hour<d.hours∧0≤known∧known≤1048576
   ·rw[decide_eq_true hg,if_pos hg];simp only[Bool.not_true,cond_false];rw[DH,List.nil_append];simp only;rw[(Cj (key m (List.Perm.refl _))).2]
   ·rw[decide_eq_false hg,if_neg hg];rfl
  refine⟨⟨qz d l,(fun h=>by rw[hc]at h;cases h),fun _=>⟨fun h=>?_,fun h=>?_⟩⟩,by rw[if_neg (by simp[hc])];exact val⟩
  ·rw[hw]at h;rw[val,if_neg (by simpa only[Bool.not_eq_true',decide_eq_false_iff_not]using h)]
  ·rw[hw]at h;have hg:0≤hour∧hour<d.hours∧0≤known∧known≤1048576:=by simpa using h
   rw[c2,f2];refine⟨c1,f1,fun L hL=>?_⟩;have hk:=key L hL;refine⟨Hn d l hour known L [] (fun k hk=>p2 k (hL.subset hk)) ?_,fun s hs=>?_⟩
   ·have h1:=hk.length_eq;have h2:=xk hD.right (fZ d l hour known);rw[h1,List.length_nil];unfold d5;omega
   ·rw[DH,List.nil_append]at hs;cases hs;obtain⟨s1,s2⟩:=Cj hk;exact⟨s1,by rw[s2,val,if_pos hg]⟩
 ·have hne:(aC d l !=0)=true:=by simpa using hc
  have val:ah d l hour known=([],aC d l):=by unfold ah;rw[hne];rfl
  refine⟨⟨qz d l,(fun _=>val.symm),fun h=>?_⟩,by rw[if_pos hc];exact val⟩;rw[hne]at h;cases h
theorem IH {α:Type}(s:List α)(x:α):(s++[x]).length=s.length+1:=by simp
theorem Pm {l:List Deed}(h:Asc l){x y:Deed}(hx:x∈l)(hy:y∈l)(e:x.no=y.no):x=y:=by
 rw[←sX h hx,←sX h hy,e]
theorem Deeds.target {d:District}{l:List Deed}(h:Deeds d l){x y:Deed}(hx:x∈l)(hk:x.kind=4)(hy:y∈l)(e:y.no=x.of_):y.kind≠4∧y.known≤x.known∧y.no<x.no:=by
 obtain⟨z,hz,h1,h2,h3,h4⟩:=h.void x hx hk;have:y=z:=Pm h.asc hy hz (by rw[e,h1]);rw[this];exact⟨h2,h3,h4⟩
theorem AJ {l:List Deed}{known n:Int}:jm l known n=true↔∃ u∈l,u.kind=4∧u.known≤known∧u.of_=n:=by
 unfold jm;rw[List.any_eq_true];simp only[Bool.and_eq_true,beq_iff_eq,decide_eq_true_eq,and_assoc]
def lv (l:List Deed)(hour known:Int)(x:Deed):Bool:= !((((x.kind==4) ||(decide (x.known > known))) ||(decide (x.at_ > hour))) ||jm l known x.no)
def Pn (r:Int):List Holding→Int
 | [] =>0
 |x::l=>(if x.right=r then x.litres else 0)+Pn r l
theorem DI {d:District}{r:Int}{L:Int}:∀ (ds:List Deed) (B:Int→Int→Int),(∀ x∈ds,Fit d x∧x.kind≠4)→Good d.farms.length L (B r)→Good d.farms.length L (lM ds B r)∧((∀ x∈ds,x.right=r→x.kind≠3)→tot d.farms.length (lM ds B r)=tot d.farms.length (B r))
 | [],B,_,hg=>⟨hg,fun _=>rfl⟩
 |x::ds,B,h,hg=>by
  have hx:=h x List.mem_cons_self;have h1:Good d.farms.length L (jE x B r)∧((x.right=r→x.kind≠3)→tot d.farms.length (jE x B r)=tot d.farms.length (B r)):=by
   unfold jE;by_cases e:r=x.right
   ·rw[if_pos e];obtain⟨q1,q2⟩:=FC hx.1 hx.2 hg;exact⟨q1,fun hk=>q2 (hk e.symm)⟩
   ·rw[if_neg e];exact⟨hg,fun _=>rfl⟩
  obtain⟨q1,q2⟩:=DI ds (jE x B) (fun y hy=>h y (List.mem_cons_of_mem _ hy)) h1.1;exact⟨q1,fun hk=>(q2 fun y hy=>hk y (List.mem_cons_of_mem _ hy)).trans (h1.2 (hk x List.mem_cons_self))⟩
theorem FE {d:District}{r:Int}(hr:¬ (0≤r∧r< (d.rights.length:Int)∧(d.rights.getD r.toNat default).kind=1)):∀ (ds:List Deed) (B:Int→Int→Int),(∀ x∈ds,Fit d x∧x.kind≠4)→lM ds B r=B r
 | [],B,_=>rfl
 |x::ds,B,h=>by
  have h1:=h x List.mem_cons_self;have h2:=h1.1.held h1.2;show lM ds (jE x B) r=_;rw[FE hr ds _ fun y hy=>h y (List.mem_cons_of_mem _ hy)];unfold jE;rw[if_neg (fun e=>hr (by rw[e];exact⟨h2.1,h2.2.1,h2.2.2.1⟩))]
theorem t0:∀ n,tot n (fun _=>0)=0:=fun n=>by
 induction n with
 |zero=>rfl
 |succ n ih=>unfold tot;rw[ih];rfl
theorem II {d:District}(h:ay d=0){k:Nat}(hk:k<d.rights.length)(ht:(d.rights.getD k default).kind=1):Good d.farms.length (d.rights.getD k default).litres (B0 d k)∧tot d.farms.length (B0 d k)=(d.rights.getD k default).litres:=by
 have hto:=wp h hk ht;have hl:=hto.l0;have e:B0 d k=gA (fun _=>0) (d.rights.getD k default).farm (d.rights.getD k default).litres:=by
  funext f
  unfold B0 gA;rw[Int.toNat_natCast];by_cases hf:f=(d.rights.getD k default).farm
  ·rw[if_pos ⟨by omega,by omega,ht,hf.symm⟩,if_pos hf]
  ·rw[if_neg (fun h=>hf h.2.2.2.symm),if_neg hf]
 rw[e];refine⟨Good.put (L:=0) ⟨fun _=>Int.le_refl _,fun f hf=>absurd rfl hf,by rw[t0];exact Int.le_refl _⟩ hto.f0 hto.f1 (by omega) (by rw[t0];omega),?_⟩;rw[ri _ _ _ _ hto.f0 hto.f1,t0];omega
theorem Po {d:District}{r:Int}(hr:¬ (0≤r∧r< (d.rights.length:Int)∧(d.rights.getD r.toNat default).kind=1)):B0 d r=fun _=>0:=by
 funext f
 unfold B0;rw[if_neg (fun h=>hr ⟨h.1,h.2.1,h.2.2.1⟩)]
structure Held (d:District)(B:Int→Int→Int):Prop where
 nn:∀ r f,0≤B r f
 take:∀ k,k<d.rights.length→(d.rights.getD k default).kind=1→Good d.farms.length (d.rights.getD k default).litres (B k)
 other:∀ r:Int,¬ (0≤r∧r< (d.rights.length:Int)∧(d.rights.getD r.toNat default).kind=1)→B r=fun _=>0
theorem FF {d:District}(h:ay d=0){ds:List Deed}(hd:∀ x∈ds,Fit d x∧x.kind≠4):Held d (lM ds (B0 d)):=by
 have ht:∀ k,k<d.rights.length→(d.rights.getD k default).kind=1→Good d.farms.length (d.rights.getD k default).litres (lM ds (B0 d) k):=fun k hk hkk=>(DI ds _ hd (II h hk hkk).1).1;have ho:∀ r:Int,¬ (0≤r∧r< (d.rights.length:Int)∧(d.rights.getD r.toNat default).kind=1)→lM ds (B0 d) r=fun _=>0:=fun r hr=>(FE hr ds _ hd).trans (Po hr);refine⟨fun r f=>?_,ht,ho⟩;by_cases hr:0≤r∧r< (d.rights.length:Int)∧(d.rights.getD r.toNat default).kind=1
 ·have:=(ht r.toNat (by omega) hr.2.2).nn f
  rwa[Int.toNat_of_nonneg hr.1]at this
 ·rw[ho r hr];exact Int.le_refl _
theorem Held.le {d:District}{B:Int→Int→Int}(h:Held d B)(he:ay d=0)(r f:Int):B r f≤1073741824:=by
 by_cases hr:0≤r∧r< (d.rights.length:Int)∧(d.rights.getD r.toNat default).kind=1
 ·have hg:=h.take r.toNat (by omega) hr.2.2;have ht:=wp he (k:=r.toNat) (by omega) hr.2.2;have:=hg.le (by have:=ht.l0;omega) f;rw[Int.toNat_of_nonneg hr.1]at this;have:=ht.l1;omega
 ·rw[h.other r hr];simp
theorem Held.tot {d:District}{B:Int→Int→Int}(h:Held d B)(he:ay d=0){k:Nat}(hk:k<d.rights.length):0≤Go.Sx.tot d.farms.length (B k)∧Go.Sx.tot d.farms.length (B k)≤1073741824:=by
 refine⟨Hk (h.nn k) _,?_⟩;by_cases hkk:(d.rights.getD k default).kind=1
 ·have:=(h.take k hk hkk).tot;have:=(wp he hk hkk).l1;omega
 ·rw[h.other k (fun hr=>hkk (by rw[Int.toNat_natCast]at hr;exact hr.2.2)),t0];omega
theorem FG {α:Type}{step:Nat→List α→Empty⊕List α}(l:List α)(d:α)(P:α→Bool)(s0:List α)(h:∀ k s,k<l.length→step k s=bif P (l.getD k d)then .inr (s++[l.getD k d])else .inr s):am step l.length 0 s0=.inr (s0++l.filter P):=by
 obtain⟨r,h1,h2⟩:=iJ (step:=step) (fun k s=>s=s0++(l.take k).filter P) l.length 0 s0 (by simp) (fun j s _ hj hs=>by
  rw[Nat.zero_add]at hj;rw[h j s hj,bo l d hj,List.filter_append,hs];cases hp:P (l.getD j d)with
  |true=>exact⟨_,rfl,by rw[List.filter_cons_of_pos hp];simp⟩
  |false=>exact⟨_,rfl,by rw[List.filter_cons_of_neg (by rw[hp];simp)];simp⟩)
 rw[h1,h2,Nat.zero_add,List.take_length]
theorem FH {α:Type}{step:Nat→List α→Empty⊕List α}{p:Nat→List α→Prop}(l:List α)(d:α)(P:α→Bool)(s0:List α)(h:∀ k s,k<l.length→step k s=bif P (l.getD k d)then .inr (s++[l.getD k d])else .inr s)(hp:∀ k s,k<l.length→s.length≤s0.length+k→p k s):okI step p l.length 0 s0:=by
 refine lh (fun k s=>s.length≤s0.length+k) _ _ _ (Nat.le_refl _) fun j s _ hj hs=>⟨hp j s (by omega) hs,fun s' e=>?_⟩;rw[h j s (by omega)]at e;cases hc:P (l.getD j d)with
 |true=>rw[hc]at e;cases e;simp;omega
 |false=>rw[hc]at e;cases e;omega
theorem Sv (l:List Deed)(x:Deed)(known:Int):mj l x known=jm l known x.no:=by
 unfold mj;cases hr:am (ir l x known) l.length 0 ()with
 |inr s=>
  have h:=dS.1 hr
  symm
  rw[←Bool.not_eq_true,AJ];rintro⟨u,hu,a,b,c⟩;obtain⟨j,hj,rfl⟩:=List.mem_iff_getElem.1 hu;have:=h j hj;unfold ir at this;rw[dX l _ hj,a,c,decide_eq_true b]at this;simp at this
 |inl y=>
  cases hc:jm l known x.no with
  |true=>rfl
  |false=>
   have:am (ir l x known) l.length 0 ()=.inr ():=dS.2 fun j hj=>by
    unfold ir;have h2:¬ ((l.getD j default).kind=4∧(l.getD j default).of_=x.no∧(l.getD j default).known≤known):=fun⟨a,b,c⟩ =>by
     have:jm l known x.no=true:=AJ.2 ⟨l.getD j default,by rw[dX l _ hj];exact List.getElem_mem _,a,c,b⟩;rw[hc]at this;cases this
    have h3:((((l.getD j (default:Deed)).kind==4)&&((l.getD j (default:Deed)).of_==x.no))&&(decide ((l.getD j (default:Deed)).known≤known)))=false:=by
     rw[←Bool.not_eq_true,Bool.and_eq_true,Bool.and_eq_true,beq_iff_eq,beq_iff_eq,decide_eq_true_eq];exact fun h=>h2 ⟨h.1.1,h.1.2,h.2⟩
    rw[h3];rfl
   rw[this]at hr;cases hr
def qv (l:List Deed)(known:Int)(x:Deed):Bool:=(x.kind !=4)&&(decide (x.known≤known))&& !jm l known x.no
theorem WK (l:List Deed)(hour known:Int)(x:Deed):lv l hour known x=(qv l known x&&decide (x.at_≤hour)):=by
 unfold lv qv;have e1:decide (x.known > known)= !decide (x.known≤known):=by by_cases h:x.known≤known <;>simp[h];omega
 have e2:decide (x.at_ > hour)= !decide (x.at_≤hour):=by by_cases h:x.at_≤hour <;>simp[h];omega
 rw[e1,e2];show(!(((x.kind==4) || !decide (x.known≤known)) || !decide (x.at_≤hour) ||jm l known x.no))=(((!(x.kind==4))&&decide (x.known≤known))&& !jm l known x.no&&decide (x.at_≤hour));cases x.kind==4 <;>cases decide (x.known≤known) <;>cases decide (x.at_≤hour) <;>cases jm l known x.no <;>rfl
theorem Ho {d:District}{l:List Deed}(hD:Deeds d l)(hour known:Int):gM l hour known∧bB l hour known=stS (wo l hour known):=by
 have hl:=hD.len;have stp:∀ (s:List Deed×Int) k (t:List Deed),k<l.length→fg l known s k t=bif((l.getD k default).at_==s.2)&&qv l known (l.getD k default)then .inr (t++[l.getD k default])else .inr t:=fun s k t hk=>by
  unfold fg qv;rw[Sv];simp only[Bool.and_assoc]
 obtain⟨k1,r,k2,k3,k4⟩:okI (eA l hour known) (fv l hour known) (Int.toNat hour+2) 0 ([],0)∧∃ r,am (eA l hour known) (Int.toNat hour+2) 0 ([],0)=.inl r∧SameF (wo l hour known) r∧Srt r:=by
  refine wi (fun s:List Deed×Int=>((Int.toNat hour+1:Nat):Int).toNat - s.2.toNat) (fun s:List Deed×Int=>∃ k:Nat,s.2=(k:Int)∧k≤4097∧(k=0∨(k:Int)≤hour+1)∧Srt s.1∧(∀ x∈s.1,x.at_< (k:Int))∧SameF (l.filter fun x=>qv l known x&&decide (x.at_< (k:Int))) s.1∧s.1.length≤512) _ ?_ _ _ _ ⟨0,rfl,by omega,.inl rfl,List.Pairwise.nil,by simp,?_,by simp⟩ (by simp only;omega)
  ·rintro j ⟨o,a⟩ ⟨k,rfl,h1,h1b,h2,h3,h4,h5⟩;unfold fv eA;by_cases hc:(k:Int)≤4096∧(k:Int)≤hour
   ·have e:((decide ((k:Int)≤4096))&&(decide ((k:Int)≤hour)))=true:=by rw[Bool.and_eq_true,decide_eq_true_eq,decide_eq_true_eq];exact hc
    simp only[e];have er:=FG (step:=fg l known (o,(k:Int))) l default (fun x=>(x.at_==(k:Int))&&qv l known x) o (stp _);rw[er];simp only[cond_true];have hsame:SameF (l.filter fun x=>qv l known x&&decide (x.at_< ((k+1:Nat):Int))) (o++l.filter fun x=>(x.at_==(k:Int))&&qv l known x):=fun t=>by
     rw[List.filter_append,←h4 t,List.filter_filter,List.filter_filter,List.filter_filter];by_cases ht:t< (k:Int)
     ·have e2:l.filter (fun a=>(a.at_==t)&&((a.at_==(k:Int))&&qv l known a))=[]:=by
       rw[List.filter_eq_nil_iff];intro a _;simp;intro e1 e2;omega
      rw[e2,List.append_nil];refine List.filter_congr fun a _=>?_;by_cases h:a.at_=t
      ·rw[decide_eq_true (by omega:a.at_< ((k+1:Nat):Int)),decide_eq_true (by omega:a.at_< (k:Int))]
      ·rw[show(a.at_==t)=false by simpa using h];simp
     ·have e2:l.filter (fun a=>(a.at_==t)&&(qv l known a&&decide (a.at_< (k:Int))))=[]:=by
       rw[List.filter_eq_nil_iff];intro a _;simp;intro e1 e2;omega
      rw[e2,List.nil_append];refine List.filter_congr fun a _=>?_;by_cases h:a.at_=t
      ·by_cases h6:t=(k:Int)
       ·rw[decide_eq_true (by omega:a.at_< ((k+1:Nat):Int)),show(a.at_==(k:Int))=true by simp;omega,Bool.and_true,Bool.true_and]
       ·rw[decide_eq_false (by omega:¬a.at_< ((k+1:Nat):Int)),show(a.at_==(k:Int))=false by simp;omega];simp
      ·rw[show(a.at_==t)=false by simpa using h];simp
    have hlen2:(o++l.filter fun x=>(x.at_==(k:Int))&&qv l known x).length≤512:=by
     rw[←qA hsame];exact Nat.le_trans (List.length_filter_le _ _) hl
    have hf2:=List.length_filter_le (fun x=>(x.at_==(k:Int))&&qv l known x) l;refine⟨fun _=>FH l default (fun x=>(x.at_==(k:Int))&&qv l known x) o (stp _) fun i s hi hs=>fun _ _=>by rw[IH];unfold d5;simp only at hs h5;omega,.inr ⟨_,rfl,?_,k+1,?_,by omega,.inr (by omega),?_,?_,hsame,hlen2⟩⟩
    ·simp only;rw[aP (by omega) (by omega)];omega
    ·simp only;rw[aP (by omega) (by omega)];omega
    ·refine xh h2 (List.pairwise_of_forall_mem_list fun x hx y hy=>?_) fun x hx y hy=>?_
     ·have:=(List.mem_filter.1 hx).2;have:=(List.mem_filter.1 hy).2;simp at *;omega
     ·have:=h3 x hx;have:=(List.mem_filter.1 hy).2;simp at this;omega
    ·intro x hx;rcases List.mem_append.1 hx with hx|hx
     ·have:=h3 x hx;omega
     ·have:=(List.mem_filter.1 hx).2;simp at this;omega
   ·have e:((decide ((k:Int)≤4096))&&(decide ((k:Int)≤hour)))=false:=by rw[←Bool.not_eq_true,Bool.and_eq_true,decide_eq_true_eq,decide_eq_true_eq];exact hc
    simp only[e,cond_false];refine⟨(fun h=>by cases h),.inl ⟨_,rfl,?_,h2⟩⟩;have:wo l hour known=l.filter fun x=>qv l known x&&decide (x.at_< (k:Int)):=by
     show l.filter (lv l hour known)=_;refine List.filter_congr fun x hx=>?_;rw[WK];have:=(hD.fit x hx).at0;have:=(hD.fit x hx).at1;congr 1
     rw[decide_eq_decide];omega
    rw[this];exact h4
  ·intro t;rw[List.filter_filter];show l.filter _=[];rw[List.filter_eq_nil_iff];intro a ha;have:=(hD.fit a ha).at0;simp;intro _ _;omega
 unfold gM bB;rw[k2];exact⟨⟨k1,fun z h=>by cases h⟩,uX k3 k4⟩
def RowL (F:Nat)(s:List Int)(g:Int→Int):Prop:=s.length=F∧∀ f:Nat,f<F→s.getD f 0=g (f:Int)
theorem RowL.set {F:Nat}{s:List Int}{g:Int→Int}(h:RowL F s g){f v:Int}(h0:0≤f)(h1:f< (F:Int)):RowL F (s.set f.toNat v) (gA g f v):=by
 refine⟨by rw[List.length_set];exact h.1,fun i hi=>?_⟩;have hl:=h.1;unfold gA;by_cases e:i=f.toNat
 ·subst e;rw[if_pos (by omega),List.getD_eq_getElem?_getD,List.getElem?_set_self (by omega)];rfl
 ·rw[if_neg (by omega),List.getD_eq_getElem?_getD,List.getElem?_set_ne (fun h=>e h.symm),←List.getD_eq_getElem?_getD,h.2 i hi]
theorem RowL.get {F:Nat}{s:List Int}{g:Int→Int}(h:RowL F s g){f:Int}(h0:0≤f)(h1:f< (F:Int)):s.getD f.toNat 0=g f:=by
 rw[h.2 f.toNat (by omega),Int.toNat_of_nonneg h0]
def uZ (r:Int):List Deed→(Int→Int→Int)→List Int
 | [],_=>[]
 |x::ds,B=>(if x.right=r∧B x.right x.since=0 then [x.no]else [])++uZ r ds (jE x B)
theorem Cl (ds:List Deed)(B:Int→Int→Int){j:Nat}(hj:j<ds.length):lM (ds.take (j+1)) B=jE (ds.getD j default) (lM (ds.take j) B):=by
 rw[bo ds default hj];unfold lM;rw[List.foldl_append];rfl
theorem MB {d:District}{ds:List Deed}{j:Nat}{r:Nat}{x:Deed}(ex:ds.getD j default=x)(hx:Fit d x)(hk:x.kind≠4){L:Int}(hL:L≤1073741824){e s:List Int}{g:Int→Int}(hg:Good d.farms.length L g)(hs:RowL d.farms.length s g)(he:(e.length+1)*8≤d5):
  fh ds r j (e,s)∧∃ s',fo ds r j (e,s)=.inr (e++(if x.right=(r:Int)∧g x.since=0 then [x.no]else []),s')∧RowL d.farms.length s' (if x.right=(r:Int)then uY x g else g):=by
 obtain⟨_,_,_,s0,s1⟩:=hx.held hk;have hsl:=hs.1;have gs:=hs.get s0 s1;unfold fh fo iH cG iI km;rw[ex];by_cases hr:x.right=(r:Int)
 ·have b0:(x.right !=(r:Int))=false:=by simpa using hr
  simp only[hr,bne_self_eq_false,cond_false,true_and,if_true];simp only[gs];have hlen:(e++[x.no]).length=e.length+1:=by simp
  by_cases hn:g x.since=0
  ·have b1:(g x.since==0)=true:=by rw[hn];rfl
   rw[b1,if_pos hn];simp only[cond_true];refine⟨fun _ _=>⟨by omega,fun _=>by rw[hlen];exact he,(fun h=>by cases h)⟩,s,rfl,?_⟩;unfold uY;rw[if_pos hn];exact hs
  ·have b1:(g x.since==0)=false:=by simpa using hn
   rw[b1,if_neg hn];simp only[cond_false,List.append_nil];have hnn:=hg.nn x.since;have hle:=hg.le30 (by omega) x.since;have r1:=hs.set (v:=0) s0 s1;have g1:Good d.farms.length (L - g x.since) (gA g x.since 0):=hg.put s0 s1 (Int.le_refl _) (by have:=hg.tot;omega);have hgl:g x.since≤L:=Int.le_trans (AE hg.nn _ _ s0 s1) hg.tot;have hl1:(s.set x.since.toNat 0).length=d.farms.length:=r1.1;by_cases k1:x.kind=1
   ·have c1:(x.kind==1)=true:=by rw[k1];rfl
    have c2:(x.kind==2)=false:=by rw[k1];rfl
    obtain⟨a,b,c⟩:=hx.pass k1;simp only[c1,c2,cond_true,cond_false,hl1];have gt:=r1.get a b;have hto:=g1.le30 (by omega) x.to;rw[gt,aP (n:=gA g x.since 0 x.to+g x.since) (by omega) (by omega)];refine⟨fun _ _=>⟨by omega,(fun h=>by cases h),fun _=>⟨by omega,fun _=>⟨by omega,by omega⟩,(fun h=>by cases h)⟩⟩,_,rfl,?_⟩;unfold uY;rw[if_neg hn,if_pos k1];exact r1.set a b
   ·have c1:(x.kind==1)=false:=by simpa using k1
    by_cases k2:x.kind=2
    ·have c2:(x.kind==2)=true:=by rw[k2];rfl
     simp only[c1,c2,cond_true,cond_false];have hx2:=hx.split k2;have h0:=hnn;obtain⟨l1,l2⟩:=DF hx2 (g x.since);generalize hn':g x.since=n at *;generalize hG:gA g x.since 0=g0 at *;generalize hS:s.set x.since.toNat 0=q0 at *;have loop1:∀ (i:Nat) (t:List Int×Int),i<x.parts.length→RowL d.farms.length t.1 (nS (x.parts.take i) n g0)→t.2=n - cb (x.parts.take i) n→
       ((jU (x.parts.getD i default).share n)∧((0≤(x.parts.getD i default).farm∧(x.parts.getD i default).farm< (t.1.length:Int))∧(0≤(x.parts.getD i default).farm∧(x.parts.getD i default).farm< (t.1.length:Int))))∧
       RowL d.farms.length (t.1.set (x.parts.getD i default).farm.toNat (i64.wrap ((t.1.getD (x.parts.getD i default).farm.toNat 0)+(d6 (x.parts.getD i default).share n).1))) (nS (x.parts.take (i+1)) n g0)∧i64.wrap (t.2 - (d6 (x.parts.getD i default).share n).1)=n - cb (x.parts.take (i+1)) n:=fun i t hi q1 q2=>by
      have hm:x.parts.getD i default∈x.parts:=by rw[dX _ _ hi];exact List.getElem_mem _
      obtain⟨f0,f1,f2,f3⟩:=hx2.fit _ hm;obtain⟨tp,tv⟩:=Hl f2 h0 (by omega:n≤1073741824);have elo:(d6 (x.parts.getD i default).share n).1=loP (x.parts.getD i default) n:=tv;have hlo:=Fz f2 f3 h0;obtain⟨w1,w2⟩:=oz h0 (x.parts.take i) _ _ (hx2.fit.take _) g1;have key:∀ l:List Part,PFit d.farms.length l→0≤cb l n:=fun l=>by
       induction l with
       |nil=>intro _;simp[cb]
       |cons p r ih=>
        intro hp;obtain⟨_,_,c,e⟩:=hp p List.mem_cons_self;have:=Fz c e h0;have:=ih fun q hq=>hp q (List.mem_cons_of_mem _ hq);have e:cb (p::r) n=loP p n+cb r n:=by simp[cb]
        omega
      have Pn:∀ k,0≤cb (x.parts.take k) n∧cb (x.parts.take k) n≤cb x.parts n:=fun k=>by
       have h1:=key _ (hx2.fit.take k);have h2:=key (x.parts.drop k) fun p hp=>hx2.fit p (List.mem_of_mem_drop hp);have h3:cb x.parts n=cb (x.parts.take k) n+cb (x.parts.drop k) n:=by
        conv=>lhs;rw[←List.take_append_drop k x.parts]
        unfold cb;rw[List.map_append,List.sum_append]
       omega
      have u1:=Pn i;have u2:=Pn (i+1);rw[bo _ default hi,rj]at u2;have hv:=w1.le30 (by omega) (x.parts.getD i default).farm;have gv:=q1.get f0 f1;have hl:=q1.1;rw[elo,gv,aP (n:=nS (x.parts.take i) n g0 (x.parts.getD i default).farm+loP (x.parts.getD i default) n) (by omega) (by omega),q2,aP (by omega) (by omega),bo _ default hi,rj,Ch];exact⟨⟨tp,by omega,by omega⟩,q1.set f0 f1,by omega⟩
     have eL:=iJ (step:=fun(k_1:Nat) (s_1:List Int×Int) =>(.inr ((s_1.1.set (Int.toNat ((x.parts.getD k_1 (default:Part)).farm)) (i64.wrap ((s_1.1.getD (Int.toNat ((x.parts.getD k_1 (default:Part)).farm)) (0:Int))+(d6 ((x.parts.getD k_1 (default:Part)).share) n).1))),(i64.wrap (s_1.2 - (d6 ((x.parts.getD k_1 (default:Part)).share) n).1))):Empty⊕(List Int×Int))) (fun i t=>RowL d.farms.length t.1 (nS (x.parts.take i) n g0)∧t.2=n - cb (x.parts.take i) n) x.parts.length 0 (q0,n) ⟨by simpa[nS]using r1,by simp[cb]⟩ (fun i t _ hi ⟨q1,q2⟩ =>by
      rw[Nat.zero_add]at hi;exact⟨_,rfl,(loop1 i t hi q1 q2).2⟩)
     obtain⟨⟨t1,lf⟩,e1,a1,a2⟩:=eL;rw[Nat.zero_add,List.take_length]at a1 a2;simp only at a1 a2;obtain⟨q1,q2⟩:=oz h0 x.parts _ _ hx2.fit g1;have loop2:∀ (i:Nat) (t:List Int),i<lf.toNat→RowL d.farms.length t (lL (x.parts.take i) (nS x.parts n g0))→
       (((0≤(i:Int)∧(i:Int) < ((x.parts).length:Int))∧((0≤(x.parts.getD i (default:Part)).farm∧(x.parts.getD i (default:Part)).farm< (t.length:Int))∧(0≤(x.parts.getD i (default:Part)).farm∧(x.parts.getD i (default:Part)).farm< (t.length:Int)))))∧
       RowL d.farms.length (t.set (x.parts.getD i default).farm.toNat (i64.wrap ((t.getD (x.parts.getD i default).farm.toNat 0)+1))) (lL (x.parts.take (i+1)) (nS x.parts n g0)):=fun i t hi p1=>by
      have hi':i<x.parts.length:=by omega
      have hm:x.parts.getD i default∈x.parts:=by rw[dX _ _ hi'];exact List.getElem_mem _
      obtain⟨f0,f1,f2,f3⟩:=hx2.fit _ hm;obtain⟨w1,w2⟩:=rk (x.parts.take i) _ _ (hx2.fit.take _) q1;have hlen:(x.parts.take i).length=i:=by rw[List.length_take];omega
      have hv:=w1.le30 (by omega) (x.parts.getD i default).farm;have gv:=p1.get f0 f1;have hl:=p1.1;rw[gv,aP (by omega) (by omega),bo _ default hi',AI];exact⟨⟨⟨by omega,by omega⟩,⟨by omega,by omega⟩⟩,p1.set f0 f1⟩
     obtain⟨t2,e2,b1⟩:=iJ (step:=fun(k_2:Nat) (s_2:List Int) =>(.inr (s_2.set (Int.toNat ((x.parts.getD k_2 (default:Part)).farm)) (i64.wrap ((s_2.getD (Int.toNat ((x.parts.getD k_2 (default:Part)).farm)) (0:Int))+1))):Empty⊕(List Int))) (fun i t=>RowL d.farms.length t (lL (x.parts.take i) (nS x.parts n g0))) lf.toNat 0 t1 (by simpa[lL]using a1) (fun i t _ hi q=>by
      rw[Nat.zero_add]at hi;exact⟨_,rfl,(loop2 i t hi q).2⟩)
     rw[Nat.zero_add]at b1;rw[e1];simp only[e2];refine⟨fun _ _=>⟨by omega,(fun h=>by cases h),fun _=>⟨by omega,(fun h=>by cases h),fun _=>⟨?_,fun z hz=>?_⟩⟩⟩,t2,rfl,?_⟩
     ·refine lh (fun i t=>RowL d.farms.length t.1 (nS (x.parts.take i) n g0)∧t.2=n - cb (x.parts.take i) n) _ _ _ ⟨by simpa[nS]using r1,by simp[cb]⟩ fun i t _ hi q=>⟨fun _=>(loop1 i t (by omega) q.1 q.2).1,fun t' ht=>by cases ht;exact(loop1 i t (by omega) q.1 q.2).2⟩
     ·cases hz;have hpl:=hx2.len;refine⟨by simp only;omega,lh (fun i t=>RowL d.farms.length t (lL (x.parts.take i) (nS x.parts n g0))) _ _ _ (by simpa[lL]using a1) fun i t _ hi q=>⟨(loop2 i t (by simpa using hi) q).1,fun t' ht=>by cases ht;exact(loop2 i t (by simpa using hi) q).2⟩⟩
     ·unfold uY;rw[hn',if_neg hn,if_neg k1,if_pos k2,hG];unfold xj;rw[←a2];exact b1
    ·have c2:(x.kind==2)=false:=by simpa using k2
     simp only[c1,c2,cond_false];refine⟨fun _ _=>⟨by omega,(fun h=>by cases h),fun _=>⟨by omega,(fun h=>by cases h),(fun h=>by cases h)⟩⟩,_,rfl,?_⟩;unfold uY;rw[if_neg hn,if_neg k1,if_neg k2];exact r1
 ·have b0:(x.right !=(r:Int))=true:=by simpa using hr
  simp only[b0,cond_true];rw[if_neg (fun h=>hr h.1),if_neg hr,List.append_nil];exact⟨(fun _ h=>by cases h),s,rfl,hs⟩
end Go.Sx
end
