/- Part of the proof that the law RegisterAtSpec returns true and leaves its arguments as they were, for all arguments of bulk at most 1048576 (the Upto form). -/
import Derived.Test.YthcbieoehjhjfaaGreatC509
import Derived.Test.YthcbieoehjhjfaaGreatC508
import Derived.Test.YthcbieoehjhjfaaGreatC507
import Derived.Calls
import Derived.Shelf.SlSortCmp.NoneTotal
import Derived.Shelf.SortM.Plain
import Derived.Shelf.SortM.SortNone
import Derived.Ground.SlgmProg
import Derived.Shelf.SlGeneric
import Derived.Test.YthcbieoehjhjfaaGreatProg
set_option linter.all false
set_option maxHeartbeats 4000000
section
namespace Go.Sx
open Go.Proofs
theorem Gj (A U V C:List Deed)(hU:U≠[])(hV:V≠[])(hl:(A++U++V++C).length<2 ^ 62):
  bp A.length ((A.length+U.length:Nat):Int) ((A.length+U.length+V.length:Nat):Int) (A++U++V++C)∧
  av A.length ((A.length+U.length:Nat):Int) ((A.length+U.length+V.length:Nat):Int) (A++U++V++C)=A++V++U++C:=by
 have hlen:(A++U++V++C).length=A.length+U.length+V.length+C.length:=by simp[Nat.add_assoc]
 have w1:IntKind.i64.wrap (((A.length+U.length:Nat):Int) - (A.length:Int))=(U.length:Int):=by rw[aT (by omega) (by omega)];omega
 have w2:IntKind.i64.wrap (((A.length+U.length+V.length:Nat):Int) - ((A.length+U.length:Nat):Int))=(V.length:Int):=by rw[aT (by omega) (by omega)];omega
 have hm:∀ {M:Nat},M=A.length+U.length→∀ {F:List Deed},F=A++V++U++C→okI (bf A.length (M:Int) ((A.length+U.length+V.length:Nat):Int)) (ci A.length (M:Int) ((A.length+U.length+V.length:Nat):Int)) (Int.toNat (((A.length+U.length+V.length:Nat):Int) - (A.length:Int))+1) 0 (A++U++V++C,(U.length:Int),(V.length:Int))∧
   ∃ r,ak (bf A.length (M:Int) ((A.length+U.length+V.length:Nat):Int)) (Int.toNat (((A.length+U.length+V.length:Nat):Int) - (A.length:Int))+1) 0 (A++U++V++C,(U.length:Int),(V.length:Int))=.inl r∧∃ A1 U1 V1 C1,r=((U1.length:Int),A1++U1++V1++C1)∧U1.length=V1.length∧A1.length+U1.length=M∧A1++V1++U1++C1=F:=by
  intro M hM F hF
  refine vB (fun s:List Deed×Int×Int=>(s.2.1+s.2.2).toNat) (fun s:List Deed×Int×Int=>∃ A1 U1 V1 C1,s=(A1++U1++V1++C1,(U1.length:Int),(V1.length:Int))∧U1≠[]∧V1≠[]∧A1.length+U1.length=M∧A1++V1++U1++C1=F) _ ?_ _ _ _ ⟨A,U,V,C,rfl,hU,hV,hM.symm,hF.symm⟩ (by simp only;omega)
  rintro k s ⟨A1,U1,V1,C1,rfl,hU1,hV1,hM1,hF1⟩
  have hFl:A1.length+V1.length+U1.length+C1.length<2 ^ 62:=by
   have:=congrArg List.length (hF1.trans hF)
   simp only[List.length_append]at this hl
   omega
  have pU:0<U1.length:=List.length_pos_iff.2 hU1
  have pV:0<V1.length:=List.length_pos_iff.2 hV1
  unfold ci bf
  have v1:IntKind.i64.wrap ((M:Int) - (U1.length:Int))=(A1.length:Int):=by rw[aT (by omega) (by omega)];omega
  by_cases he:U1.length=V1.length
  ·have b1:(((U1.length:Int)) !=((V1.length:Int)))=false:=by simp[he]
   refine⟨fun h=>?_,.inl ⟨_,?_,A1,U1,V1,C1,rfl,he,hM1,hF1⟩⟩
   ·simp only[b1]at h;cases h
   ·simp only[b1,cond_false]
  ·have b1:(((U1.length:Int)) !=((V1.length:Int)))=true:=by simp only[bne_iff_ne,ne_eq];omega
   by_cases hgt:V1.length<U1.length
   ·have b2:decide (((U1.length:Int)) > ((V1.length:Int)))=true:=by rw[decide_eq_true_eq];omega
    have v2:IntKind.i64.wrap ((U1.length:Int) - (V1.length:Int))=((U1.drop V1.length).length:Int):=by rw[aT (by omega) (by omega),List.length_drop];omega
    have hsp:U1=U1.take V1.length++U1.drop V1.length:=(List.take_append_drop _ _).symm
    have ht:(U1.take V1.length).length=V1.length:=by rw[List.length_take];omega
    have hd:(U1.drop V1.length).length=U1.length - V1.length:=List.length_drop
    have hsw:=Ar A1 (U1.take V1.length) (U1.drop V1.length) V1 C1 ht (by simp only[List.length_append,ht,hd];omega)
    have e1:A1++U1.take V1.length++U1.drop V1.length++V1++C1=A1++U1++V1++C1:=by rw[List.append_assoc A1,List.take_append_drop]
    have e2:((A1.length+(U1.take V1.length).length+(U1.drop V1.length).length:Nat):Int)=(M:Int):=by rw[ht,hd];omega
    rw[e1,e2,ht]at hsw
    simp only[b1,b2,v1,v2,cond_true]
    refine⟨fun _=>⟨fun _=>hsw.1,fun h=>by cases h⟩,.inr ⟨_,rfl,by simp only[hd];omega,A1++V1,U1.drop V1.length,U1.take V1.length,C1,?_,fun h=>?_,fun h=>?_,?_,?_⟩⟩
    ·rw[hsw.2,ht]
    ·rw[h]at hd;simp at hd;omega
    ·rw[h]at ht;simp at ht;omega
    ·rw[List.length_append,hd];omega
    ·rw[←hF1,List.append_assoc (A1++V1),List.take_append_drop]
   ·have b2:decide (((U1.length:Int)) > ((V1.length:Int)))=false:=by rw[decide_eq_false_iff_not];omega
    have v2:IntKind.i64.wrap ((V1.length:Int) - (U1.length:Int))=((V1.take (V1.length - U1.length)).length:Int):=by rw[aT (by omega) (by omega),List.length_take];omega
    have v3:IntKind.i64.wrap (IntKind.i64.wrap ((M:Int)+(V1.length:Int)) - (U1.length:Int))=((A1.length+U1.length+(V1.take (V1.length - U1.length)).length:Nat):Int):=by
     rw[aT (n:=(M:Int)+(V1.length:Int)) (by omega) (by omega),aT (by omega) (by omega),List.length_take];omega
    have ht:(V1.take (V1.length - U1.length)).length=V1.length - U1.length:=by rw[List.length_take];omega
    have hd:(V1.drop (V1.length - U1.length)).length=U1.length:=by rw[List.length_drop];omega
    have hsw:=Ar A1 U1 (V1.take (V1.length - U1.length)) (V1.drop (V1.length - U1.length)) C1 hd.symm (by simp only[List.length_append,ht,hd];omega)
    have e1:A1++U1++V1.take (V1.length - U1.length)++V1.drop (V1.length - U1.length)++C1=A1++U1++V1++C1:=by rw[List.append_assoc (A1++U1),List.take_append_drop]
    rw[e1]at hsw
    simp only[b1,b2,v1,v2,v3,cond_true,cond_false]
    refine⟨fun _=>⟨(fun h=>by cases h),fun _=>hsw.1⟩,.inr ⟨_,rfl,by simp only[ht];omega,A1,V1.drop (V1.length - U1.length),V1.take (V1.length - U1.length),U1++C1,?_,fun h=>?_,fun h=>?_,by rw[hd];exact hM1,?_⟩⟩
    ·rw[hsw.2,hd];simp
    ·rw[h]at hd;simp at hd;omega
    ·rw[h]at ht;simp at ht;omega
    ·rw[←hF1,List.append_assoc A1,List.take_append_drop];simp
 obtain⟨k1,r,k2,A1,U1,V1,C1,rfl,q1,q2,q3⟩:=hm rfl rfl
 have hFl:A1.length+V1.length+U1.length+C1.length<2 ^ 62:=by
  have:=congrArg List.length q3
  simp only[List.length_append]at this hl
  omega
 have v1:IntKind.i64.wrap (((A.length+U.length:Nat):Int) - (U1.length:Int))=(A1.length:Int):=by rw[aT (by omega) (by omega)];omega
 have hsw:=Ar A1 U1 [] V1 C1 q1 (by simp only[List.length_append,List.length_nil];omega)
 have e2:((A1.length+U1.length+([]:List Deed).length:Nat):Int)=((A.length+U.length:Nat):Int):=by rw[List.length_nil];omega
 rw[e2]at hsw
 simp only[List.append_nil]at hsw
 unfold bp av
 rw[w1,w2]
 refine⟨⟨k1,u6 (Q:=fun _=>True) ⟨_,k2,trivial⟩,fun x hx=>?_⟩,?_⟩
 ·rw[k2]at hx;cases hx
  simp only[v1]
  exact hsw.1
 ·rw[k2]
  simp only[v1]
  rw[hsw.2,q3]
end Go.Sx
end
section
namespace Go.Sx
open Go.Proofs
theorem half {i j:Int}(h0:0≤i)(h1:i≤j)(h2:j≤2305843009213693952):IntKind.i64.wrap (br .u64 (IntKind.u64.wrap (IntKind.i64.wrap (i+j))) 1)=(i+j) / 2:=by
 have e0:IntKind.i64.wrap (i+j)=i+j:=aT (by omega) (by omega)
 have e:IntKind.u64.wrap (i+j)=i+j:=by
  unfold IntKind.wrap
  simp[IntKind.bits,IntKind.signed]
  omega
 have e2:br .u64 (i+j) 1=(i+j) / 2:=by
  show Int.fdiv (i+j) ((2:Int) ^ min (Int.toNat 1) IntKind.u64.bits)=_
  have:(2:Int) ^ min (Int.toNat 1) IntKind.u64.bits=2:=by decide
  rw[this,Int.fdiv_eq_ediv_of_nonneg _ (by omega)]
 rw[e0,e,e2,aT (by omega) (by omega)]
theorem BZ {i j:Nat}(h1:i≤j)(h2:j<2 ^ 61):IntKind.i64.wrap (br .u64 (IntKind.u64.wrap (IntKind.i64.wrap ((i:Int)+(j:Int)))) 1)=(((i+j) / 2:Nat):Int):=by
 rw[half (by omega) (by omega) (by omega)];omega
theorem As {step:Nat→Int×Int→Int⊕(Int×Int)}{p:Nat→Int×Int→Prop}(P:Nat→Bool)(lo hi:Nat)(hlh:lo≤hi)(hmono:∀ x y,lo≤x→x≤y→y<hi→P y=true→P x=true)
  (hstep:∀ k (i j:Nat),lo≤i→i<j→j≤hi→p k ((i:Int),(j:Int))∧step k ((i:Int),(j:Int))=bif P ((i+j) / 2)then .inr ((((i+j) / 2+1:Nat):Int),(j:Int))else .inr ((i:Int),(((i+j) / 2:Nat):Int)))
  (hstop:∀ k (i:Nat),p k ((i:Int),(i:Int))∧step k ((i:Int),(i:Int))=.inl (i:Int)) (n k:Nat) (hn:hi - lo<n):
  okI step p n k ((lo:Int),(hi:Int))∧∃ r,ak step n k ((lo:Int),(hi:Int))=.inl r∧∃ q:Nat,r=(q:Int)∧lo≤q∧q≤hi∧(∀ x,lo≤x→x<q→P x=true)∧∀ x,q≤x→x<hi→P x=false:=by
 refine vB (fun s:Int×Int=>(s.2 - s.1).toNat) (fun s:Int×Int=>∃ i j:Nat,s=((i:Int),(j:Int))∧lo≤i∧i≤j∧j≤hi∧(∀ x,lo≤x→x<i→P x=true)∧∀ x,j≤x→x<hi→P x=false) _ ?_ n k _ ⟨lo,hi,rfl,Nat.le_refl _,hlh,Nat.le_refl _,fun x h1 h2=>by omega,fun x h1 h2=>by omega⟩ (by simp only;omega)
 rintro k s ⟨i,j,rfl,h1,h2,h3,h4,h5⟩
 by_cases h:i<j
 ·obtain⟨q1,q2⟩:=hstep k i j h1 h h3
  refine⟨q1,.inr ?_⟩
  have hm1:i≤(i+j) / 2:=by omega
  have hm2:(i+j) / 2<j:=by omega
  cases hP:P ((i+j) / 2)with
  |true=>
   rw[hP]at q2
   refine⟨_,q2,by simp only;omega,(i+j) / 2+1,j,rfl,by omega,by omega,h3,fun x hx1 hx2=>?_,h5⟩
   exact hmono x _ hx1 (by omega) (by omega) hP
  |false=>
   rw[hP]at q2
   refine⟨_,q2,by simp only;omega,i,(i+j) / 2,rfl,h1,hm1,by omega,h4,fun x hx1 hx2=>?_⟩
   cases hx:P x with
   |false=>rfl
   |true=>rw[hmono _ x (by omega) hx1 hx2 hx]at hP;cases hP
 ·have e:i=j:=by omega
  subst e
  obtain⟨q1,q2⟩:=hstop k i
  exact⟨q1,.inl ⟨_,q2,i,rfl,h1,h3,h4,h5⟩⟩
end Go.Sx
end
section
namespace Go.Sx
open Go.Proofs
theorem Iz (A V C:List Deed)(x:Deed)(l_:List Deed)(hl:(A++x::V++C).length<2 ^ 62)(hfuel:(A++x::V++C).length=l_.length):
  okI (pb l_ ((A.length+1+V.length:Nat):Int)) (oI l_ ((A.length+1+V.length:Nat):Int)) (l_.length+1) 0 (A++x::V++C,(A.length:Int))∧
  ∃ r,ak (pb l_ ((A.length+1+V.length:Nat):Int)) (l_.length+1) 0 (A++x::V++C,(A.length:Int))=.inl r∧r=A++V++x::C:=by
 have hlen:(A++x::V++C).length=A.length+V.length+C.length+1:=by simp;omega
 have w0:IntKind.i64.wrap (((A.length+1+V.length:Nat):Int) - 1)=((A.length+V.length:Nat):Int):=by rw[aT (by omega) (by omega)];omega
 refine vB (fun s:List Deed×Int=>(((A.length+V.length:Nat):Int) - s.2).toNat) (fun s:List Deed×Int=>∃ V1 V2,V=V1++V2∧s=(A++V1++x::(V2++C),((A.length+V1.length:Nat):Int))) (fun r=>r=A++V++x::C) ?_ _ _ _ ⟨[],V,rfl,by simp⟩ (by simp only;omega)
 rintro k s ⟨V1,V2,hV,rfl⟩
 have hVl:V.length=V1.length+V2.length:=by rw[hV,List.length_append]
 unfold oI pb
 rw[w0]
 cases V2 with
 |nil=>
  have e:decide (((A.length+V1.length:Nat):Int) < ((A.length+V.length:Nat):Int))=false:=by rw[decide_eq_false_iff_not,hVl,List.length_nil];omega
  refine⟨fun h=>?_,.inl ⟨A++V1++x::([]++C),?_,by rw[hV];simp⟩⟩
  ·simp only[e]at h;cases h
  ·simp only[e,cond_false]
 |cons y V2=>
  simp only[List.length_cons]at hVl
  have e:decide (((A.length+V1.length:Nat):Int) < ((A.length+V.length:Nat):Int))=true:=by rw[decide_eq_true_eq];omega
  have w1:IntKind.i64.wrap (((A.length+V1.length:Nat):Int)+1)=((A.length+V1.length+1:Nat):Int):=by rw[aT (by omega) (by omega)];omega
  have g1:(A++V1++x::(y::V2++C)).getD (A.length+V1.length) default=x:=kC _ _ _ _ (by simp)
  have r1:A++V1++x::(y::V2++C)=(A++V1++[x])++y::(V2++C):=by simp
  have g2:(A++V1++x::(y::V2++C)).getD (A.length+V1.length+1) default=y:=by rw[r1];exact kC _ _ _ _ (by simp;omega)
  have hL:(A++V1++x::(y::V2++C)).length=A.length+V.length+C.length+1:=by simp;omega
  simp only[e,w1,Int.toNat_natCast,g1,g2,List.length_set,hL,cond_true]
  refine⟨fun _=>by omega,.inr ⟨_,rfl,by simp only;omega,V1++[y],V2,by rw[hV];simp,?_⟩⟩
  rw[pe (A++V1) x y _ (by simp)]
  have r2:A++V1++y::(y::V2++C)=(A++V1++[y])++y::(V2++C):=by simp
  rw[r2,pe (A++V1++[y]) y x _ (by simp;omega)]
  simp[Nat.add_assoc]
theorem DM (A U C:List Deed)(x:Deed)(l_:List Deed)(hl:(A++U++x::C).length<2 ^ 62)(hfuel:(A++U++x::C).length=l_.length):
  okI (pc l_ (A.length:Int)) (oJ l_ (A.length:Int)) (l_.length+1) 0 (A++U++x::C,((A.length+U.length:Nat):Int))∧
  ∃ r,ak (pc l_ (A.length:Int)) (l_.length+1) 0 (A++U++x::C,((A.length+U.length:Nat):Int))=.inl r∧r=A++x::(U++C):=by
 have hlen:(A++U++x::C).length=A.length+U.length+C.length+1:=by simp;omega
 refine vB (fun s:List Deed×Int=>(s.2 - (A.length:Int)).toNat) (fun s:List Deed×Int=>∃ W1 W2,U=W1++W2∧s=(A++W1++x::(W2++C),((A.length+W1.length:Nat):Int))) (fun r=>r=A++x::(U++C)) ?_ _ _ _ ⟨U,[],by simp,by simp⟩ (by simp only;omega)
 rintro k s ⟨W1,W2,hU,rfl⟩
 have hUl:U.length=W1.length+W2.length:=by rw[hU,List.length_append]
 unfold oJ pc
 rcases List.eq_nil_or_concat W1 with rfl| ⟨W1,y,rfl⟩
 ·have e:decide (((A.length+([]:List Deed).length:Nat):Int) > (A.length:Int))=false:=by simp
  refine⟨fun h=>?_,.inl ⟨A++[]++x::(W2++C),?_,by rw[hU];simp⟩⟩
  ·simp only[e]at h;cases h
  ·simp only[e,cond_false]
 ·simp only[List.concat_eq_append,List.length_append,List.length_cons,List.length_nil]at hUl hU ⊢
  have e:decide (((A.length+(W1.length+(0+1)):Nat):Int) > (A.length:Int))=true:=by rw[decide_eq_true_eq];omega
  have w1:IntKind.i64.wrap (((A.length+(W1.length+(0+1)):Nat):Int) - 1)=((A.length+W1.length:Nat):Int):=by rw[aT (by omega) (by omega)];omega
  have g1:(A++(W1++[y])++x::(W2++C)).getD (A.length+(W1.length+(0+1))) default=x:=kC _ _ _ _ (by simp)
  have r1:A++(W1++[y])++x::(W2++C)=(A++W1)++y::x::(W2++C):=by simp
  have g2:(A++(W1++[y])++x::(W2++C)).getD (A.length+W1.length) default=y:=by rw[r1];exact kC _ _ _ _ (by simp)
  have hL:(A++(W1++[y])++x::(W2++C)).length=A.length+U.length+C.length+1:=by simp;omega
  simp only[e,w1,Int.toNat_natCast,g1,g2,List.length_set,hL,cond_true]
  refine⟨fun _=>by omega,.inr ⟨_,rfl,by simp only;omega,W1,y::W2,by rw[hU];simp,?_⟩⟩
  rw[pe (A++(W1++[y])) x y _ (by simp)]
  have r2:A++(W1++[y])++y::(W2++C)=(A++W1)++y::y::(W2++C):=by simp
  rw[r2,pe (A++W1) y x _ (by simp)]
  simp
end Go.Sx
end
section
namespace Go.Sx
open Go.Proofs
theorem tx {α:Type}(A V C:List α)(d:α){h:Nat}(h1:A.length≤h)(h2:h<A.length+V.length):(A++V++C).getD h d=V.getD (h - A.length) d:=by
 simp only[List.getD_eq_getElem?_getD]
 rw[List.append_assoc,List.getElem?_append_right h1,List.getElem?_append_left (by omega)]
theorem qV {α:Type}(l:List α)(d:α){n:Nat}(h:n<l.length):l.getD n d=l[n]:=by
 simp[List.getD_eq_getElem?_getD,List.getElem?_eq_getElem h]
theorem mo {V:List Deed}(h:Srt V){i j:Nat}(h1:i≤j)(h2:j<V.length):(V.getD i default).at_≤(V.getD j default).at_:=by
 rcases Nat.eq_or_lt_of_le h1 with rfl|h1
 ·exact Int.le_refl _
 ·rw[qV V _ (by omega),qV V _ h2]
  exact List.pairwise_iff_getElem.1 h i j (by omega) h2 h1
theorem tz {V:List Deed}{k:Nat}{y:Deed}(h:y∈V.take k):∃ i,i<k∧i<V.length∧y=V.getD i default:=by
 obtain⟨i,hi,e⟩:=List.mem_iff_getElem.1 h
 rw[List.length_take]at hi
 refine⟨i,by omega,by omega,?_⟩
 rw[qV V _ (by omega),←e,List.getElem_take]
theorem tA {V:List Deed}{k:Nat}{y:Deed}(h:y∈V.drop k):∃ i,k≤i∧i<V.length∧y=V.getD i default:=by
 obtain⟨i,hi,e⟩:=List.mem_iff_getElem.1 h
 rw[List.length_drop]at hi
 refine⟨k+i,by omega,by omega,?_⟩
 rw[qV V _ (by omega),←e,List.getElem_drop]
theorem vL {a b:List Deed}(h:Srt (a++b)):Srt a∧Srt b∧∀ x∈a,∀ y∈b,x.at_≤y.at_:=List.pairwise_append.1 h
theorem uC {a b:List Deed}(h1:Srt a)(h2:Srt b)(h3:∀ x∈a,∀ y∈b,x.at_≤y.at_):Srt (a++b):=List.pairwise_append.2 ⟨h1,h2,h3⟩
def Mq (n:Nat)(rec_:Int→Int→Int→List Deed→List Deed)(recp_:Int→Int→Int→List Deed→Prop):Prop:=
 ∀ A U V C:List Deed,U≠[]→V≠[]→U.length+V.length≤n→(A++U++V++C).length<2 ^ 60→Srt U→Srt V→
  recp_ (A.length:Int) ((A.length+U.length:Nat):Int) ((A.length+U.length+V.length:Nat):Int) (A++U++V++C)∧
  ∃ M,rec_ (A.length:Int) ((A.length+U.length:Nat):Int) ((A.length+U.length+V.length:Nat):Int) (A++U++V++C)=A++M++C∧SameF (U++V) M∧Srt M∧M.length=U.length+V.length
theorem DN (rec_:Int→Int→Int→List Deed→List Deed)(recp_:Int→Int→Int→List Deed→Prop)(A V C:List Deed)(x:Deed)(hl:(A++[x]++V++C).length<2 ^ 60)(hV:Srt V):
  pd rec_ recp_ (A.length:Int) ((A.length+1:Nat):Int) ((A.length+1+V.length:Nat):Int) (A++[x]++V++C)∧
  ∃ M,Ao rec_ recp_ (A.length:Int) ((A.length+1:Nat):Int) ((A.length+1+V.length:Nat):Int) (A++[x]++V++C)=A++M++C∧SameF ([x]++V) M∧Srt M∧M.length=1+V.length:=by
 have hL:(A++[x]++V++C).length=A.length+V.length+C.length+1:=by simp;omega
 have w:IntKind.i64.wrap (((A.length+1:Nat):Int) - (A.length:Int))=1:=by rw[aT (by omega) (by omega)];omega
 have gx:(A++[x]++V++C).getD A.length default=x:=by
  have:A++[x]++V++C=A++x::(V++C):=by simp
  rw[this];exact kC _ _ _ _ rfl
 have gV:∀ h,A.length+1≤h→h<A.length+1+V.length→(A++[x]++V++C).getD h default=V.getD (h - (A.length+1)) default:=fun h h1 h2=>by
  have:=tx (A++[x]) V C default (h:=h) (by simp;omega) (by simp;omega)
  simpa using this
 have s:=As (step:=kz (A.length:Int) (A++[x]++V++C)) (p:=mU (A.length:Int) (A++[x]++V++C)) (fun h=>decide ((V.getD (h - (A.length+1)) default).at_<x.at_)) (A.length+1) (A.length+1+V.length) (by omega)
  (fun i j h1 h2 h3 h4=>by
   have:=mo hV (i:=i - (A.length+1)) (j:=j - (A.length+1)) (by omega) (by omega)
   simp only[decide_eq_true_eq]at h4 ⊢
   omega)
  (fun k i j h1 h2 h3=>by
   have e:decide ((i:Int) < (j:Int))=true:=by rw[decide_eq_true_eq];omega
   unfold mU kz
   simp only[BZ (i:=i) (j:=j) (by omega) (by omega),e,cond_true,Int.toNat_natCast,gx,gV ((i+j) / 2) (by omega) (by omega),EW,hL]
   have w2:IntKind.i64.wrap ((((i+j) / 2:Nat):Int)+1)=(((i+j) / 2+1:Nat):Int):=by rw[aT (by omega) (by omega)];omega
   rw[w2]
   exact⟨fun _=>by omega,rfl⟩)
  (fun k i=>by
   have e:decide ((i:Int) < (i:Int))=false:=by simp
   unfold mU kz
   simp only[e,cond_false]
   exact⟨fun h=>by simp at h,trivial⟩) ((A++[x]++V++C).length+1) 0 (by omega)
 obtain⟨s1,r,s2,q,rfl,q1,q2,q3,q4⟩:=s
 have ht:(V.take (q - (A.length+1))).length=q - (A.length+1):=by rw[List.length_take];omega
 have hVs:V.take (q - (A.length+1))++V.drop (q - (A.length+1))=V:=List.take_append_drop _ _
 have hd1:∀ y∈V.take (q - (A.length+1)),y.at_<x.at_:=fun y hy=>by
  obtain⟨i,i1,i2,rfl⟩:=tz hy
  have:=q3 (A.length+1+i) (by omega) (by omega)
  simpa[show A.length+1+i - (A.length+1)=i by omega]using this
 have hd2:∀ y∈V.drop (q - (A.length+1)),x.at_≤y.at_:=fun y hy=>by
  obtain⟨i,i1,i2,rfl⟩:=tA hy
  have:=q4 (A.length+1+i) (by omega) (by omega)
  simpa[show A.length+1+i - (A.length+1)=i by omega]using this
 generalize hV1:V.take (q - (A.length+1))=V1 at *
 generalize hV2:V.drop (q - (A.length+1))=V2 at *
 subst hVs
 have eq:A++[x]++(V1++V2)++C=A++x::V1++(V2++C):=by simp
 obtain⟨c1,r,c2,rfl⟩:=Iz A V1 (V2++C) x (A++[x]++(V1++V2)++C) (by rw[←eq];omega) (by rw[eq])
 have eqq:((A.length+1+V1.length:Nat):Int)=(q:Int):=by rw[ht];omega
 rw[←eq,eqq]at c1 c2
 unfold pd Ao
 rw[w]
 refine⟨⟨fun _=>⟨s1,u6 (Q:=fun _=>True) ⟨_,s2,trivial⟩,fun z hz=>?_⟩,fun h=>by cases h⟩,V1++[x]++V2,?_,?_,?_,?_⟩
 ·rw[s2]at hz
  cases hz
  exact⟨c1,u6 (Q:=fun _=>True) ⟨_,c2,trivial⟩⟩
 ·rw[s2]
  simp only[BEq.rfl,cond_true]
  rw[c2]
  simp
 ·have h0:SameF ([x]++V1) (V1++[x]):=SameF.swap fun a ha b hb=>by simp at ha;subst ha;have:=hd1 b hb;omega
  simpa using h0.app (SameF.refl V2)
 ·obtain⟨a1,a2,a3⟩:=vL hV
  refine uC (uC a1 (List.pairwise_singleton _ _) fun y hy z hz=>?_) a2 fun y hy z hz=>?_
  ·simp at hz;subst hz;exact Int.le_of_lt (hd1 y hy)
  ·rcases List.mem_append.1 hy with hy|hy
   ·exact a3 y hy z hz
   ·simp at hy;subst hy;exact hd2 z hz
 ·simp;omega
end Go.Sx
end
section
namespace Go.Sx
open Go.Proofs
theorem B3 (rec_:Int→Int→Int→List Deed→List Deed)(recp_:Int→Int→Int→List Deed→Prop)(A U C:List Deed)(x:Deed)(hU2:2≤U.length)(hl:(A++U++[x]++C).length<2 ^ 60)(hU:Srt U):
  pd rec_ recp_ (A.length:Int) ((A.length+U.length:Nat):Int) ((A.length+U.length+1:Nat):Int) (A++U++[x]++C)∧
  ∃ M,Ao rec_ recp_ (A.length:Int) ((A.length+U.length:Nat):Int) ((A.length+U.length+1:Nat):Int) (A++U++[x]++C)=A++M++C∧SameF (U++[x]) M∧Srt M∧M.length=U.length+1:=by
 have hL:(A++U++[x]++C).length=A.length+U.length+C.length+1:=by simp;omega
 have w1:IntKind.i64.wrap (((A.length+U.length:Nat):Int) - (A.length:Int))=(U.length:Int):=by rw[aT (by omega) (by omega)];omega
 have w:IntKind.i64.wrap (((A.length+U.length+1:Nat):Int) - ((A.length+U.length:Nat):Int))=1:=by rw[aT (by omega) (by omega)];omega
 have b1:((U.length:Int) ==1)=false:=by simp;omega
 have gx:(A++U++[x]++C).getD (A.length+U.length) default=x:=by
  have:A++U++[x]++C=(A++U)++x::C:=by simp
  rw[this];exact kC _ _ _ _ (by simp)
 have gU:∀ h,A.length≤h→h<A.length+U.length→(A++U++[x]++C).getD h default=U.getD (h - A.length) default:=fun h h1 h2=>by
  have:=tx A U ([x]++C) default (h:=h) h1 h2
  simpa using this
 have s:=As (step:=kA ((A.length+U.length:Nat):Int) (A++U++[x]++C)) (p:=mV ((A.length+U.length:Nat):Int) (A++U++[x]++C)) (fun h=>!decide (x.at_< (U.getD (h - A.length) default).at_)) A.length (A.length+U.length) (by omega)
  (fun i j h1 h2 h3 h4=>by
   have:=mo hU (i:=i - A.length) (j:=j - A.length) (by omega) (by omega)
   simp only[Bool.not_eq_true',decide_eq_false_iff_not]at h4 ⊢
   omega)
  (fun k i j h1 h2 h3=>by
   have e:decide ((i:Int) < (j:Int))=true:=by rw[decide_eq_true_eq];omega
   unfold mV kA
   simp only[BZ (i:=i) (j:=j) (by omega) (by omega),e,cond_true,Int.toNat_natCast,gx,gU ((i+j) / 2) (by omega) (by omega),EW,hL]
   have w2:IntKind.i64.wrap ((((i+j) / 2:Nat):Int)+1)=(((i+j) / 2+1:Nat):Int):=by rw[aT (by omega) (by omega)];omega
   rw[w2]
   exact⟨fun _=>by omega,rfl⟩)
  (fun k i=>by
   have e:decide ((i:Int) < (i:Int))=false:=by simp
   unfold mV kA
   simp only[e,cond_false]
   exact⟨fun h=>by simp at h,trivial⟩) ((A++U++[x]++C).length+1) 0 (by omega)
 obtain⟨s1,r,s2,q,rfl,q1,q2,q3,q4⟩:=s
 have ht:(U.take (q - A.length)).length=q - A.length:=by rw[List.length_take];omega
 have hd:(U.drop (q - A.length)).length=U.length - (q - A.length):=List.length_drop
 have hUs:U.take (q - A.length)++U.drop (q - A.length)=U:=List.take_append_drop _ _
 have hd1:∀ y∈U.take (q - A.length),y.at_≤x.at_:=fun y hy=>by
  obtain⟨i,i1,i2,rfl⟩:=tz hy
  have:=q3 (A.length+i) (by omega) (by omega)
  simpa[show A.length+i - A.length=i by omega]using this
 have hd2:∀ y∈U.drop (q - A.length),x.at_<y.at_:=fun y hy=>by
  obtain⟨i,i1,i2,rfl⟩:=tA hy
  have:=q4 (A.length+i) (by omega) (by omega)
  simpa[show A.length+i - A.length=i by omega]using this
 generalize hV1:U.take (q - A.length)=V1 at *
 generalize hV2:U.drop (q - A.length)=V2 at *
 subst hUs
 have eq:A++(V1++V2)++[x]++C=(A++V1)++V2++x::C:=by simp
 obtain⟨c1,r,c2,rfl⟩:=DM (A++V1) V2 C x (A++(V1++V2)++[x]++C) (by rw[←eq];omega) (by rw[eq])
 have eqq:(((A++V1).length:Nat):Int)=(q:Int):=by rw[List.length_append,ht];omega
 have eqm:(((A++V1).length+V2.length:Nat):Int)=((A.length+(V1++V2).length:Nat):Int):=by simp only[List.length_append];omega
 rw[←eq,eqm,eqq]at c1 c2
 unfold pd Ao
 rw[w1,w]
 refine⟨⟨fun h=>(by rw[b1]at h;cases h),fun _=>⟨fun _=>⟨s1,u6 (Q:=fun _=>True) ⟨_,s2,trivial⟩,fun z hz=>?_⟩,fun h=>by cases h⟩⟩,V1++[x]++V2,?_,?_,?_,?_⟩
 ·rw[s2]at hz
  cases hz
  exact⟨c1,u6 (Q:=fun _=>True) ⟨_,c2,trivial⟩⟩
 ·rw[s2]
  simp only[b1,BEq.rfl,cond_true,cond_false]
  rw[c2]
  simp
 ·have h0:SameF (V2++[x]) ([x]++V2):=SameF.swap fun a ha b hb=>by simp at hb;subst hb;have:=hd2 a ha;omega
  simpa using (SameF.refl V1).app h0
 ·obtain⟨a1,a2,a3⟩:=vL hU
  refine uC (uC a1 (List.pairwise_singleton _ _) fun y hy z hz=>?_) a2 fun y hy z hz=>?_
  ·simp at hz;subst hz;exact hd1 y hy
  ·rcases List.mem_append.1 hy with hy|hy
   ·exact a3 y hy z hz
   ·simp at hy;subst hy;exact Int.le_of_lt (hd2 z hz)
 ·simp;omega
end Go.Sx
end
section
namespace Go.Sx
open Go.Proofs
def stI (x:Deed):List Deed→List Deed
 | [] =>[x]
 |y::r=>if x.at_≤y.at_ then x::y::r else y::stI x r
def stS:List Deed→List Deed
 | [] =>[]
 |x::r=>stI x (stS r)
theorem xx (x:Deed):∀ l,SameF (x::l) (stI x l)
 | [] =>SameF.refl _
 |y::r=>by
  unfold stI
  by_cases h:x.at_≤y.at_
  ·rw[if_pos h];exact SameF.refl _
  ·rw[if_neg h]
   have h1:SameF ([x]++[y]++r) ([y]++[x]++r):=(SameF.swap fun a ha b hb=>by simp at ha hb;subst ha;subst hb;omega).app (SameF.refl r)
   exact h1.trans ((SameF.refl [y]).app (xx x r))
theorem SameF.symm {a b:List Deed}(h:SameF a b):SameF b a:=fun t=>(h t).symm
theorem SameF.mem {a b:List Deed}(h:SameF a b){x:Deed}(hx:x∈a):x∈b:=by
 have:x∈a.filter fun y=>y.at_==x.at_:=by rw[List.mem_filter];exact⟨hx,by simp⟩
 rw[h x.at_]at this
 exact(List.mem_filter.1 this).1
theorem SameF.mem_iff {a b:List Deed}(h:SameF a b){x:Deed}:x∈a↔x∈b:=⟨h.mem,h.symm.mem⟩
theorem EX (x:Deed):∀ l,Srt l→Srt (stI x l)
 | [],_=>List.pairwise_singleton _ _
 |y::r,h=>by
  unfold stI
  have h':=List.pairwise_cons.1 h
  by_cases hc:x.at_≤y.at_
  ·rw[if_pos hc]
   exact List.pairwise_cons.2 ⟨fun z hz=>by
    rcases List.mem_cons.1 hz with rfl|hz
    ·exact hc
    ·exact Int.le_trans hc (h'.1 z hz),h⟩
  ·rw[if_neg hc]
   refine List.pairwise_cons.2 ⟨fun z hz=>?_,EX x r h'.2⟩
   have:=(xx x r).symm.mem hz
   rcases List.mem_cons.1 this with rfl|hz'
   ·omega
   ·exact h'.1 z hz'
theorem oQ:∀ l,SameF l (stS l)
 | [] =>SameF.refl _
 |x::r=>((SameF.refl [x]).app (oQ r)).trans (xx x _)
theorem At:∀ l,Srt (stS l)
 | [] =>List.Pairwise.nil
 |x::r=>EX x _ (At r)
theorem u7:∀ {a b:List Deed},Srt a→Srt b→SameF a b→a=b
 | [],[],_,_,_=>rfl
 | [],y::b,_,_,h=>absurd (h.symm.mem (List.mem_cons_self)) (by simp)
 |x::a,[],_,_,h=>absurd (h.mem (List.mem_cons_self)) (by simp)
 |x::a,y::b,ha,hb,h=>by
  have ha':=List.pairwise_cons.1 ha
  have hb':=List.pairwise_cons.1 hb
  have e:x.at_=y.at_:=by
   have h1:=h.mem (List.mem_cons_self (a:=x) (l:=a))
   have h2:=h.symm.mem (List.mem_cons_self (a:=y) (l:=b))
   have q1:y.at_≤x.at_:=by
    rcases List.mem_cons.1 h1 with e|h1
    ·rw[e];exact Int.le_refl _
    ·exact hb'.1 x h1
   have q2:x.at_≤y.at_:=by
    rcases List.mem_cons.1 h2 with e|h2
    ·rw[e];exact Int.le_refl _
    ·exact ha'.1 y h2
   omega
  have h0:=h x.at_
  have ey:(y.at_==x.at_)=true:=by simp[e]
  have ex:(x.at_==x.at_)=true:=by simp
  simp only[List.filter_cons,ex,ey,if_true]at h0
  obtain⟨exy,htl⟩:=List.cons.inj h0
  subst exy
  have:SameF a b:=fun t=>by
   have ht:=h t
   simp only[List.filter_cons]at ht
   by_cases hc:(x.at_==t)=true
   ·rw[if_pos hc,if_pos hc]at ht;exact(List.cons.inj ht).2
   ·rw[if_neg hc,if_neg hc]at ht;exact ht
  rw[u7 ha'.2 hb'.2 this]
theorem sp {a b:List Deed}(h:SameF a b)(hb:Srt b):b=stS a:=u7 hb (At a) (h.symm.trans (oQ a))
theorem SameF.filter {a b:List Deed}(p:Deed→Bool)(h:SameF a b):SameF (a.filter p) (b.filter p):=fun t=>by
 rw[List.filter_filter,List.filter_filter,List.filter_congr (q:=fun x=>p x&&(x.at_==t)) fun x _=>Bool.and_comm _ _,←List.filter_filter,h t,List.filter_filter,List.filter_congr (p:=fun x=>p x&&(x.at_==t)) (q:=fun x=>(x.at_==t)&&p x) fun x _=>Bool.and_comm _ _]
theorem EY {l:List Deed}{x:Deed}:x∈stS l↔x∈l:=(oQ l).symm.mem_iff
end Go.Sx
end
section
namespace Go.Sx
open Go.Proofs
theorem SC {c1 c2 c3:Bool}{l rot:List Deed}(f1 f2:List Deed→List Deed):
  (bif c1 then(bif c2 then(bif c3 then f2 (f1 rot)else f1 rot)else(bif c3 then f2 rot else rot))else(bif c2 then(bif c3 then f2 (f1 l)else f1 l)else(bif c3 then f2 l else l)))=(bif c3 then f2 (bif c2 then f1 (bif c1 then rot else l)else(bif c1 then rot else l))else(bif c2 then f1 (bif c1 then rot else l)else(bif c1 then rot else l))):=by
 cases c1 <;>cases c2 <;>cases c3 <;>rfl
theorem Oo {c1 c2 c3:Bool}{l rot:List Deed}{rp:Prop}(f1:List Deed→List Deed)(p1 p2:List Deed→Prop)(h1:c1=true→rp)(h2:c2=true→p1 (bif c1 then rot else l))(h3:c3=true→p2 (bif c2 then f1 (bif c1 then rot else l)else(bif c1 then rot else l))):
  ((c1=true→(rp∧((c2=true→(p1 rot∧(c3=true→p2 (f1 rot))))∧(c2=false→c3=true→p2 rot))))∧(c1=false→((c2=true→(p1 l∧(c3=true→p2 (f1 l))))∧(c2=false→c3=true→p2 l)))):=by
 cases c1 <;>cases c2 <;>cases c3 <;>simp_all
theorem DO {N:Nat}{rec_:Int→Int→Int→List Deed→List Deed}{recp_:Int→Int→Int→List Deed→Prop}(hr:Mq N rec_ recp_)(A U V C:List Deed)(hU2:2≤U.length)(hV2:2≤V.length)(hN:U.length+V.length≤N+1)(hl:(A++U++V++C).length<2 ^ 60)(hU:Srt U)(hV:Srt V):
  pd rec_ recp_ (A.length:Int) ((A.length+U.length:Nat):Int) ((A.length+U.length+V.length:Nat):Int) (A++U++V++C)∧
  ∃ M,Ao rec_ recp_ (A.length:Int) ((A.length+U.length:Nat):Int) ((A.length+U.length+V.length:Nat):Int) (A++U++V++C)=A++M++C∧SameF (U++V) M∧Srt M∧M.length=U.length+V.length:=by
 have hL:(A++U++V++C).length=A.length+U.length+V.length+C.length:=by simp[Nat.add_assoc]
 have gU:∀ h,A.length≤h→h<A.length+U.length→(A++U++V++C).getD h default=U.getD (h - A.length) default:=fun h h1 h2=>by
  have:=tx A U (V++C) default (h:=h) h1 h2
  simpa using this
 have gV:∀ h,A.length+U.length≤h→h<A.length+U.length+V.length→(A++U++V++C).getD h default=V.getD (h - (A.length+U.length)) default:=fun h h1 h2=>by
  have:=tx (A++U) V C default (h:=h) (by simp;omega) (by simp;omega)
  simpa using this
 have hmid:IntKind.i64.wrap (br .u64 (IntKind.u64.wrap (IntKind.i64.wrap ((A.length:Int)+((A.length+U.length+V.length:Nat):Int)))) 1)=((A.length+(U.length+V.length) / 2:Nat):Int):=by
  rw[BZ (by omega) (by omega)];omega
 generalize hmd:A.length+(U.length+V.length) / 2=mid at *
 have hn:IntKind.i64.wrap ((mid:Int)+((A.length+U.length:Nat):Int))=((mid+(A.length+U.length):Nat):Int):=by rw[aT (by omega) (by omega)];omega
 have hp1:IntKind.i64.wrap (((mid+(A.length+U.length):Nat):Int) - 1)=((mid+(A.length+U.length) - 1:Nat):Int):=by rw[aT (by omega) (by omega)];omega
 have w1:IntKind.i64.wrap (((A.length+U.length:Nat):Int) - (A.length:Int))=(U.length:Int):=by rw[aT (by omega) (by omega)];omega
 have w2:IntKind.i64.wrap (((A.length+U.length+V.length:Nat):Int) - ((A.length+U.length:Nat):Int))=(V.length:Int):=by rw[aT (by omega) (by omega)];omega
 have b1:((U.length:Int) ==1)=false:=by simp;omega
 have b2:((V.length:Int) ==1)=false:=by simp;omega
 obtain⟨lo,elo,hlo⟩:∃ lo:Nat,(bif decide (((A.length+U.length:Nat):Int) > (mid:Int))then IntKind.i64.wrap (((mid+(A.length+U.length):Nat):Int) - ((A.length+U.length+V.length:Nat):Int))else(A.length:Int))=(lo:Int)∧((mid<A.length+U.length∧lo+V.length=mid)∨(A.length+U.length≤mid∧lo=A.length)):=by
  by_cases h:mid<A.length+U.length
  ·refine⟨mid - V.length,?_,.inl ⟨h,by omega⟩⟩
   rw[decide_eq_true (by omega),cond_true,aT (by omega) (by omega)];omega
  ·refine⟨A.length,?_,.inr ⟨by omega,rfl⟩⟩
   rw[decide_eq_false (by omega),cond_false]
 obtain⟨hi,ehi,hhi⟩:∃ hi:Nat,(bif decide (((A.length+U.length:Nat):Int) > (mid:Int))then(mid:Int)else((A.length+U.length:Nat):Int))=(hi:Int)∧((mid<A.length+U.length∧hi=mid)∨(A.length+U.length≤mid∧hi=A.length+U.length)):=by
  by_cases h:mid<A.length+U.length
  ·exact⟨mid,by rw[decide_eq_true (by omega),cond_true],.inl ⟨h,rfl⟩⟩
  ·exact⟨A.length+U.length,by rw[decide_eq_false (by omega),cond_false],.inr ⟨by omega,rfl⟩⟩
 have s:=As (step:=nW (A.length:Int) ((A.length+U.length:Nat):Int) ((A.length+U.length+V.length:Nat):Int) (A++U++V++C)) (p:=mW (A.length:Int) ((A.length+U.length:Nat):Int) ((A.length+U.length+V.length:Nat):Int) (A++U++V++C)) (fun c=>!decide ((V.getD (mid - 1 - c) default).at_< (U.getD (c - A.length) default).at_)) lo hi (by omega)
  (fun i j h1 h2 h3 h4=>by
   have q1:=mo hU (i:=i - A.length) (j:=j - A.length) (by omega) (by omega)
   have q2:=mo hV (i:=mid - 1 - j) (j:=mid - 1 - i) (by omega) (by omega)
   simp only[Bool.not_eq_true',decide_eq_false_iff_not]at h4 ⊢
   omega)
  (fun k i j h1 h2 h3=>by
   have e:decide ((i:Int) < (j:Int))=true:=by rw[decide_eq_true_eq];omega
   have hc:IntKind.i64.wrap (((mid+(A.length+U.length) - 1:Nat):Int) - (((i+j) / 2:Nat):Int))=((mid+(A.length+U.length) - 1 - (i+j) / 2:Nat):Int):=by rw[aT (by omega) (by omega)];omega
   have e2:mid+(A.length+U.length) - 1 - (i+j) / 2 - (A.length+U.length)=mid - 1 - (i+j) / 2:=by omega
   unfold mW nW
   simp only[hmid,hn,hp1,BZ (i:=i) (j:=j) (by omega) (by omega),e,cond_true,hc,Int.toNat_natCast,gU ((i+j) / 2) (by omega) (by omega),gV (mid+(A.length+U.length) - 1 - (i+j) / 2) (by omega) (by omega),e2,EW,hL]
   have w2:IntKind.i64.wrap ((((i+j) / 2:Nat):Int)+1)=(((i+j) / 2+1:Nat):Int):=by rw[aT (by omega) (by omega)];omega
   rw[w2]
   exact⟨fun _=>by omega,rfl⟩)
  (fun k i=>by
   have e:decide ((i:Int) < (i:Int))=false:=by simp
   unfold mW nW
   simp only[e,cond_false]
   exact⟨fun h=>by simp at h,trivial⟩) ((A++U++V++C).length+1) 0 (by omega)
 obtain⟨s1,r,s2,q,rfl,q1,q2,q3,q4⟩:=s
 have hend:IntKind.i64.wrap (((mid+(A.length+U.length):Nat):Int) - (q:Int))=((mid+(A.length+U.length) - q:Nat):Int):=by rw[aT (by omega) (by omega)];omega
 have hUs:U.take (q - A.length)++U.drop (q - A.length)=U:=List.take_append_drop _ _
 have hVs:V.take (mid - q)++V.drop (mid - q)=V:=List.take_append_drop _ _
 have lU1:(U.take (q - A.length)).length=q - A.length:=by rw[List.length_take];omega
 have lU2:(U.drop (q - A.length)).length=A.length+U.length - q:=by rw[List.length_drop];omega
 have lV1:(V.take (mid - q)).length=mid - q:=by rw[List.length_take];omega
 have lV2:(V.drop (mid - q)).length=V.length+q - mid:=by rw[List.length_drop];omega
 have k1:∀ x∈U.take (q - A.length),∀ y∈V.drop (mid - q),x.at_≤y.at_:=fun x hx y hy=>by
  obtain⟨i,i1,i2,rfl⟩:=tz hx
  obtain⟨j,j1,j2,rfl⟩:=tA hy
  have:=q3 (q - 1) (by omega) (by omega)
  have p1:=mo hU (i:=i) (j:=q - 1 - A.length) (by omega) (by omega)
  have p2:=mo hV (i:=mid - 1 - (q - 1)) (j:=j) (by omega) (by omega)
  simp only[Bool.not_eq_true',decide_eq_false_iff_not]at this
  omega
 have k2:∀ x∈U.drop (q - A.length),∀ y∈V.take (mid - q),y.at_<x.at_:=fun x hx y hy=>by
  obtain⟨i,i1,i2,rfl⟩:=tA hx
  obtain⟨j,j1,j2,rfl⟩:=tz hy
  have:=q4 q (by omega) (by omega)
  have p1:=mo hU (i:=q - A.length) (j:=i) (by omega) (by omega)
  have p2:=mo hV (i:=j) (j:=mid - 1 - q) (by omega) (by omega)
  simp only[Bool.not_eq_false',decide_eq_true_eq]at this
  omega
 generalize hE1:U.take (q - A.length)=U1 at *
 generalize hE2:U.drop (q - A.length)=U2 at *
 generalize hE3:V.take (mid - q)=V1 at *
 generalize hE4:V.drop (mid - q)=V2 at *
 have lenU:U.length=U1.length+U2.length:=by rw[←hUs,List.length_append]
 have lenV:V.length=V1.length+V2.length:=by rw[←hVs,List.length_append]
 have hlist:A++U++V++C=A++U1++U2++V1++(V2++C):=by rw[←hUs,←hVs];simp
 obtain⟨sU1,sU2,sU⟩:=vL (by rw[hUs];exact hU:Srt (U1++U2))
 obtain⟨sV1,sV2,sV⟩:=vL (by rw[hVs];exact hV:Srt (V1++V2))
 have hrot:(decide ((q:Int) < ((A.length+U.length:Nat):Int))&&decide (((A.length+U.length:Nat):Int) < ((mid+(A.length+U.length) - q:Nat):Int)))=true→bp (q:Int) ((A.length+U.length:Nat):Int) ((mid+(A.length+U.length) - q:Nat):Int) (A++U++V++C)∧av (q:Int) ((A.length+U.length:Nat):Int) ((mid+(A.length+U.length) - q:Nat):Int) (A++U++V++C)=A++U1++V1++(U2++V2++C):=fun h=>by
  simp only[Bool.and_eq_true,decide_eq_true_eq]at h
  have:=Gj (A++U1) U2 V1 (V2++C) (by rw[←List.length_pos_iff];omega) (by rw[←List.length_pos_iff];omega) (by rw[←hlist];omega)
  have e1:(((A++U1).length:Nat):Int)=(q:Int):=by rw[List.length_append];omega
  have e2:(((A++U1).length+U2.length:Nat):Int)=((A.length+U.length:Nat):Int):=by rw[List.length_append];omega
  have e3:(((A++U1).length+U2.length+V1.length:Nat):Int)=((mid+(A.length+U.length) - q:Nat):Int):=by rw[List.length_append];omega
  rw[←hlist,e1,e2,e3]at this
  refine⟨this.1,this.2.trans (by simp)⟩
 have hl1:(bif(decide ((q:Int) < ((A.length+U.length:Nat):Int))&&decide (((A.length+U.length:Nat):Int) < ((mid+(A.length+U.length) - q:Nat):Int)))then av (q:Int) ((A.length+U.length:Nat):Int) ((mid+(A.length+U.length) - q:Nat):Int) (A++U++V++C)else A++U++V++C)=A++U1++V1++(U2++V2++C):=by
  cases hc:(decide ((q:Int) < ((A.length+U.length:Nat):Int))&&decide (((A.length+U.length:Nat):Int) < ((mid+(A.length+U.length) - q:Nat):Int)))with
  |true=>rw[cond_true,(hrot hc).2]
  |false=>
   rw[cond_false,hlist]
   simp only[Bool.and_eq_false_iff,decide_eq_false_iff_not]at hc
   have:U2=[]∨V1=[]:=by
    rcases hc with hc|hc
    ·exact .inl (List.eq_nil_of_length_eq_zero (by omega))
    ·exact .inr (List.eq_nil_of_length_eq_zero (by omega))
   rcases this with rfl|rfl <;>simp
 obtain⟨M1,hM1p,hM1,f1,t1,l1⟩:∃ M1,((decide ((A.length:Int) < (q:Int))&&decide ((q:Int) < (mid:Int)))=true→recp_ (A.length:Int) (q:Int) (mid:Int) (A++U1++V1++(U2++V2++C)))∧(bif(decide ((A.length:Int) < (q:Int))&&decide ((q:Int) < (mid:Int)))then rec_ (A.length:Int) (q:Int) (mid:Int) (A++U1++V1++(U2++V2++C))else A++U1++V1++(U2++V2++C))=A++M1++(U2++V2++C)∧SameF (U1++V1) M1∧Srt M1∧M1.length=U1.length+V1.length:=by
  cases hc:(decide ((A.length:Int) < (q:Int))&&decide ((q:Int) < (mid:Int)))with
  |true=>
   simp only[Bool.and_eq_true,decide_eq_true_eq]at hc
   obtain⟨h1,M1,h2,h3,h4,h5⟩:=hr A U1 V1 (U2++V2++C) (by rw[←List.length_pos_iff];omega) (by rw[←List.length_pos_iff];omega) (by omega) (by simp only[List.length_append]at hl ⊢;omega) sU1 sV1
   have e1:((A.length+U1.length:Nat):Int)=(q:Int):=by omega
   have e2:((A.length+U1.length+V1.length:Nat):Int)=(mid:Int):=by omega
   rw[e1,e2]at h1 h2
   exact⟨M1,fun _=>h1,h2,h3,h4,h5⟩
  |false=>
   simp only[Bool.and_eq_false_iff,decide_eq_false_iff_not]at hc
   refine⟨U1++V1,(fun h=>by cases h),by simp,SameF.refl _,?_,List.length_append⟩
   have:U1=[]∨V1=[]:=by
    rcases hc with hc|hc
    ·exact .inl (List.eq_nil_of_length_eq_zero (by omega))
    ·exact .inr (List.eq_nil_of_length_eq_zero (by omega))
   rcases this with rfl|rfl
   ·exact sV1
   ·simpa using sU1
 obtain⟨M2,hM2p,hM2,f2,t2,l2⟩:∃ M2,((decide ((mid:Int) < ((mid+(A.length+U.length) - q:Nat):Int))&&decide (((mid+(A.length+U.length) - q:Nat):Int) < ((A.length+U.length+V.length:Nat):Int)))=true→recp_ (mid:Int) ((mid+(A.length+U.length) - q:Nat):Int) ((A.length+U.length+V.length:Nat):Int) (A++M1++(U2++V2++C)))∧(bif(decide ((mid:Int) < ((mid+(A.length+U.length) - q:Nat):Int))&&decide (((mid+(A.length+U.length) - q:Nat):Int) < ((A.length+U.length+V.length:Nat):Int)))then rec_ (mid:Int) ((mid+(A.length+U.length) - q:Nat):Int) ((A.length+U.length+V.length:Nat):Int) (A++M1++(U2++V2++C))else A++M1++(U2++V2++C))=A++M1++M2++C∧SameF (U2++V2) M2∧Srt M2∧M2.length=U2.length+V2.length:=by
  cases hc:(decide ((mid:Int) < ((mid+(A.length+U.length) - q:Nat):Int))&&decide (((mid+(A.length+U.length) - q:Nat):Int) < ((A.length+U.length+V.length:Nat):Int)))with
  |true=>
   simp only[Bool.and_eq_true,decide_eq_true_eq]at hc
   obtain⟨h1,M2,h2,h3,h4,h5⟩:=hr (A++M1) U2 V2 C (by rw[←List.length_pos_iff];omega) (by rw[←List.length_pos_iff];omega) (by omega) (by simp only[List.length_append]at hl ⊢;omega) sU2 sV2
   have e0:(((A++M1).length:Nat):Int)=(mid:Int):=by rw[List.length_append];omega
   have e1:(((A++M1).length+U2.length:Nat):Int)=((mid+(A.length+U.length) - q:Nat):Int):=by rw[List.length_append];omega
   have e2:(((A++M1).length+U2.length+V2.length:Nat):Int)=((A.length+U.length+V.length:Nat):Int):=by rw[List.length_append];omega
   have e3:A++M1++U2++V2++C=A++M1++(U2++V2++C):=by simp
   rw[e0,e1,e2,e3]at h1 h2
   exact⟨M2,fun _=>h1,h2,h3,h4,h5⟩
  |false=>
   simp only[Bool.and_eq_false_iff,decide_eq_false_iff_not]at hc
   refine⟨U2++V2,(fun h=>by cases h),by simp,SameF.refl _,?_,List.length_append⟩
   have:U2=[]∨V2=[]:=by
    rcases hc with hc|hc
    ·exact .inl (List.eq_nil_of_length_eq_zero (by omega))
    ·exact .inr (List.eq_nil_of_length_eq_zero (by omega))
   rcases this with rfl|rfl
   ·exact sV2
   ·simpa using sU2
 unfold pd Ao
 simp only[w1,w2,b1,b2,hmid,hn,elo,ehi,s2,hend,cond_false]
 refine⟨⟨(fun h=>by cases h),fun _=>⟨(fun h=>by cases h),fun _=>⟨s1,(fun z h=>by cases h),fun z hz=>?_⟩⟩⟩,M1++M2,?_,?_,?_,?_⟩
 ·cases hz
  simp only[hend]
  exact Oo (fun l=>rec_ (A.length:Int) (q:Int) (mid:Int) l) (fun l=>recp_ (A.length:Int) (q:Int) (mid:Int) l) (fun l=>recp_ (mid:Int) ((mid+(A.length+U.length) - q:Nat):Int) ((A.length+U.length+V.length:Nat):Int) l) (fun h=>(hrot h).1) (fun h=>by rw[hl1];exact hM1p h) (fun h=>by rw[hl1];simp only[hM1];exact hM2p h)
 ·refine(SC (fun l=>rec_ (A.length:Int) (q:Int) (mid:Int) l) (fun l=>rec_ (mid:Int) ((mid+(A.length+U.length) - q:Nat):Int) ((A.length+U.length+V.length:Nat):Int) l)).trans ?_
  rw[hl1]
  simp only[hM1]
  rw[hM2]
  simp
 ·have h0:SameF (U2++V1) (V1++U2):=SameF.swap fun a ha b hb=>by have:=k2 a ha b hb;omega
  have h1:SameF (U++V) (U1++V1++(U2++V2)):=by
   rw[←hUs,←hVs]
   have:=((SameF.refl U1).app h0).app (SameF.refl V2)
   simpa using this
  exact h1.trans (f1.app f2)
 ·refine uC t1 t2 fun x hx y hy=>?_
  have hx:=f1.symm.mem hx
  have hy:=f2.symm.mem hy
  rcases List.mem_append.1 hx with hx|hx <;>rcases List.mem_append.1 hy with hy|hy
  ·exact sU x hx y hy
  ·exact k1 x hx y hy
  ·exact Int.le_of_lt (k2 y hy x hx)
  ·exact sV x hx y hy
 ·rw[List.length_append];omega
end Go.Sx
end
section
namespace Go.Sx
open Go.Proofs
theorem B4:∀ n,Mq n (lJ n).1 (lJ n).2
 |0=>fun A U V C hU hV h=>absurd (List.length_pos_iff.2 hU) (by omega)
 |n+1=>fun A U V C hU hV hN hl sU sV=>by
  have pU:=List.length_pos_iff.2 hU
  have pV:=List.length_pos_iff.2 hV
  by_cases h1:U.length=1
  ·obtain⟨x,rfl⟩:=List.length_eq_one_iff.1 h1
   exact DN _ _ A V C x hl sV
  ·by_cases h2:V.length=1
   ·obtain⟨x,rfl⟩:=List.length_eq_one_iff.1 h2
    exact B3 _ _ A U C x (by omega) hl sU
   ·exact DO (B4 n) A U V C (by omega) (by omega) hN hl sU sV
theorem IA (A U V C:List Deed)(hU:U≠[])(hV:V≠[])(hl:(A++U++V++C).length<2 ^ 60)(sU:Srt U)(sV:Srt V):
  bQ (A.length:Int) ((A.length+U.length:Nat):Int) ((A.length+U.length+V.length:Nat):Int) (A++U++V++C)∧
  ∃ M,b7 (A.length:Int) ((A.length+U.length:Nat):Int) ((A.length+U.length+V.length:Nat):Int) (A++U++V++C)=A++M++C∧SameF (U++V) M∧Srt M∧M.length=U.length+V.length:=
 B4 ((A++U++V++C).length+1) A U V C hU hV (by simp only[List.length_append];omega) hl sU sV
inductive Blk (n:Nat):List Deed→Prop
 |last {l:List Deed}:l.length≤n→Srt l→Blk n l
 |cons {b l:List Deed}:b.length=n→Srt b→Blk n l→Blk n (b++l)
inductive Full (n:Nat):List Deed→Prop
 |nil:Full n []
 |snoc {l b:List Deed}:Full n l→b.length=n→Srt b→Full n (l++b)
theorem Full.app {n:Nat}{a:List Deed}(h:Full n a):∀ {l:List Deed},Blk n l→Blk n (a++l):=by
 induction h with
 |nil=>exact fun h=>h
 |snoc _ hb hs ih=>exact fun h=>by rw[List.append_assoc];exact ih (.cons hb hs h)
theorem Blk.srt {n:Nat}{l:List Deed}(h:Blk n l)(hl:l.length≤n):Srt l:=by
 cases h with
 |last _ hs=>exact hs
 | @cons b r hb hs h=>
  rw[List.length_append]at hl
  have:=List.eq_nil_of_length_eq_zero (show r.length=0 by omega)
  subst this
  simpa using hs
theorem Blk.split {n:Nat}{l:List Deed}(h:Blk n l)(hl:n≤l.length):∃ b r,l=b++r∧b.length=n∧Srt b∧Blk n r:=by
 cases h with
 |last h1 hs=>exact⟨l,[],by simp,by omega,hs,.last (Nat.zero_le _) List.Pairwise.nil⟩
 |cons hb hs h=>exact⟨_,_,rfl,hb,hs,h⟩
theorem oR {a b:List Deed}(h:SameF a b):a.length=b.length:=by
 have e:∀ {l:List Deed},stS l=l∨True:=fun {_} =>.inr trivial
 have h1:∀ l:List Deed,(stS l).length=l.length:=fun l=>by
  induction l with
  |nil=>rfl
  |cons x r ih=>
   have:∀ l:List Deed,(stI x l).length=l.length+1:=fun l=>by
    induction l with
    |nil=>rfl
    |cons y l ih2=>
     unfold stI
     by_cases hc:x.at_≤y.at_
     ·rw[if_pos hc];simp
     ·rw[if_neg hc];simp[ih2]
   show(stI x (stS r)).length=_
   rw[this,ih];rfl
 rw[←h1 a,←h1 b,sp (h.trans (oQ b)) (At b)]
theorem za (l:List Deed)(hl:l.length<2 ^ 58):bC (l.length:Int) l∧bR (l.length:Int) l=stS l:=by
 obtain⟨k1,r,k2,D,R,rfl,k3,k4,k5,k6⟩:okI (aL (l.length:Int)) (cj (l.length:Int)) (Int.toNat (l.length:Int)+1) 0 (l,0,20)∧∃ r,ak (aL (l.length:Int)) (Int.toNat (l.length:Int)+1) 0 (l,0,20)=.inl r∧∃ D R,r=(((D.length:Nat):Int),D++R)∧Full 20 D∧SameF l (D++R)∧R.length<20∧l.length=D.length+R.length:=by
  refine vB (fun s:List Deed×Int×Int=>((l.length:Int) - s.2.1).toNat) (fun s:List Deed×Int×Int=>∃ D R,s=(D++R,((D.length:Nat):Int),((D.length+20:Nat):Int))∧Full 20 D∧SameF l (D++R)∧l.length=D.length+R.length) _ ?_ _ _ _ ⟨[],l,rfl,.nil,SameF.refl _,by simp⟩ (by simp only[Int.toNat_natCast];omega)
  rintro k s ⟨D,R,rfl,hD,hF,hlen⟩
  unfold cj aL
  by_cases h:20≤R.length
  ·have e:decide (((D.length+20:Nat):Int)≤(l.length:Int))=true:=by rw[decide_eq_true_eq];omega
   have hRs:R.take 20++R.drop 20=R:=List.take_append_drop _ _
   have hRt:(R.take 20).length=20:=by rw[List.length_take];omega
   have hRd:(R.drop 20).length=R.length - 20:=List.length_drop
   have hi:=y_ D (R.take 20) (R.drop 20) (by simp only[List.length_append];omega)
   rw[List.append_assoc D,hRs,hRt]at hi
   obtain⟨i1,M,i2,i3,i4⟩:=hi
   have hM:=oR i3
   have w:IntKind.i64.wrap (((D.length+20:Nat):Int)+20)=(((D++M).length+20:Nat):Int):=by rw[aT (by omega) (by omega),List.length_append];omega
   simp only[e,cond_true,w]
   refine⟨fun _=>i1,.inr ⟨_,rfl,by simp only;omega,D++M,R.drop 20,?_,hD.snoc (by omega) i4,?_,by rw[List.length_append];omega⟩⟩
   ·rw[i2]
    have:((D.length+20:Nat):Int)=(((D++M).length:Nat):Int):=by rw[List.length_append];omega
    rw[this]
   ·refine hF.trans ?_
    have:=((SameF.refl D).app (i3.app (SameF.refl (R.drop 20))))
    rw[hRs]at this
    simpa using this
  ·have e:decide (((D.length+20:Nat):Int)≤(l.length:Int))=false:=by rw[decide_eq_false_iff_not];omega
   simp only[e,cond_false]
   exact⟨(fun h=>by cases h),.inl ⟨_,rfl,D,R,rfl,hD,hF,by omega,hlen⟩⟩
 have hi:=y_ D R [] (by simp only[List.length_append,List.length_nil];omega)
 have eN:((D.length+R.length:Nat):Int)=(l.length:Int):=by omega
 rw[List.append_nil,eN]at hi
 obtain⟨i1,M,i2,i3,i4⟩:=hi
 rw[List.append_nil]at i2
 have hM:=oR i3
 have hB0:Blk 20 (D++M):=k3.app (.last (by omega) i4)
 have hF0:SameF l (D++M):=k4.trans ((SameF.refl D).app i3)
 obtain⟨m1,r,m2,m3,m4⟩:okI (bi (l.length:Int)) (bM (l.length:Int)) (Int.toNat (l.length:Int)+1) 0 (D++M,20)∧∃ r,ak (bi (l.length:Int)) (Int.toNat (l.length:Int)+1) 0 (D++M,20)=.inl r∧SameF l r∧Srt r:=by
  refine vB (fun s:List Deed×Int=>((l.length:Int) - s.2).toNat) (fun s:List Deed×Int=>∃ (L:List Deed) (n:Nat),s=(L,(n:Int))∧20≤n∧n<2 ^ 59∧Blk n L∧SameF l L) _ ?_ _ _ _ ⟨D++M,20,rfl,Nat.le_refl _,by omega,hB0,hF0⟩ (by simp only[Int.toNat_natCast];omega)
  rintro k s ⟨L,n,rfl,hn,hn2,hB,hF⟩
  have hLl:=oR hF
  by_cases h:n<l.length
  ·have e:decide ((n:Int) < (l.length:Int))=true:=by rw[decide_eq_true_eq];omega
   have w2:IntKind.i64.wrap (2*(n:Int))=((2*n:Nat):Int):=by rw[aT (by omega) (by omega)];omega
   have w2':IntKind.i64.wrap ((n:Int)*2)=((2*n:Nat):Int):=by rw[aT (by omega) (by omega)];omega
   obtain⟨p1,r,p2,D,R,rfl,p3,p4,p5,p6,p7⟩:okI (bh (l.length:Int) (L,(n:Int))) (cm (l.length:Int) (L,(n:Int))) (Int.toNat (l.length:Int)+1) 0 (L,0,((2*n:Nat):Int))∧∃ r,ak (bh (l.length:Int) (L,(n:Int))) (Int.toNat (l.length:Int)+1) 0 (L,0,((2*n:Nat):Int))=.inl r∧∃ D R,r=(((D.length:Nat):Int),D++R)∧Full (2*n) D∧Blk n R∧SameF l (D++R)∧R.length<2*n∧l.length=D.length+R.length:=by
    refine vB (fun s:List Deed×Int×Int=>((l.length:Int) - s.2.1).toNat) (fun s:List Deed×Int×Int=>∃ D R,s=(D++R,((D.length:Nat):Int),((D.length+2*n:Nat):Int))∧Full (2*n) D∧Blk n R∧SameF l (D++R)∧l.length=D.length+R.length) _ ?_ _ _ _ ⟨[],L,by simp,.nil,hB,hF,by simpa using hLl⟩ (by simp only[Int.toNat_natCast];omega)
    rintro k s ⟨D,R,rfl,hD,hR,hF,hlen⟩
    unfold cm bh
    by_cases h:2*n≤R.length
    ·have e:decide (((D.length+2*n:Nat):Int)≤(l.length:Int))=true:=by rw[decide_eq_true_eq];omega
     obtain⟨B1,R1,rfl,b1,b2,b3⟩:=hR.split (by omega)
     rw[List.length_append]at h hlen
     obtain⟨B2,R2,rfl,c1,c2,c3⟩:=b3.split (by omega)
     rw[List.length_append]at h hlen
     obtain⟨i1,M,i2,i3,i4,i5⟩:=IA D B1 B2 R2 (by rw[←List.length_pos_iff];omega) (by rw[←List.length_pos_iff];omega) (by simp only[List.length_append];omega) b2 c2
     have e0:D++B1++B2++R2=D++(B1++(B2++R2)):=by simp
     have e1:((D.length+B1.length+B2.length:Nat):Int)=((D.length+2*n:Nat):Int):=by omega
     have e2:IntKind.i64.wrap ((D.length:Int)+(n:Int))=((D.length+B1.length:Nat):Int):=by rw[aT (by omega) (by omega)];omega
     rw[e0,e1]at i1 i2
     have w:IntKind.i64.wrap (((D.length+2*n:Nat):Int)+((2*n:Nat):Int))=(((D++M).length+2*n:Nat):Int):=by rw[aT (by omega) (by omega),List.length_append];omega
     simp only[e,cond_true,e2,w2,w]
     refine⟨fun _=>i1,.inr ⟨_,rfl,by simp only;omega,D++M,R2,?_,hD.snoc (by omega) i4,c3,?_,by rw[List.length_append];omega⟩⟩
     ·rw[i2]
      have:((D.length+2*n:Nat):Int)=(((D++M).length:Nat):Int):=by rw[List.length_append];omega
      rw[this]
     ·refine hF.trans ?_
      have:=(SameF.refl D).app (i3.app (SameF.refl R2))
      simpa using this
    ·have e:decide (((D.length+2*n:Nat):Int)≤(l.length:Int))=false:=by rw[decide_eq_false_iff_not];omega
     simp only[e,cond_false]
     exact⟨(fun h=>by cases h),.inl ⟨_,rfl,D,R,rfl,hD,hR,hF,by omega,hlen⟩⟩
   have wm:IntKind.i64.wrap ((D.length:Int)+(n:Int))=((D.length+n:Nat):Int):=by rw[aT (by omega) (by omega)];omega
   unfold bM bi
   simp only[e,cond_true,w2,w2',p2,wm]
   by_cases hm:n<R.length
   ·have em:decide (((D.length+n:Nat):Int) < (l.length:Int))=true:=by rw[decide_eq_true_eq];omega
    obtain⟨B1,R1,rfl,b1,b2,b3⟩:=p4.split (by omega)
    rw[List.length_append]at hm p6 p7
    have b4:=b3.srt (by omega)
    obtain⟨i1,M,i2,i3,i4,i5⟩:=IA D B1 R1 [] (by rw[←List.length_pos_iff];omega) (by rw[←List.length_pos_iff];omega) (by simp only[List.length_append,List.length_nil];omega) b2 b4
    have e0:D++B1++R1++[]=D++(B1++R1):=by simp
    have e1:((D.length+B1.length+R1.length:Nat):Int)=(l.length:Int):=by omega
    have e2:((D.length+B1.length:Nat):Int)=((D.length+n:Nat):Int):=by omega
    rw[e0,e1,e2]at i1 i2
    rw[List.append_nil]at i2
    refine⟨fun _=>⟨p1,(fun z h=>by cases h),fun x hx=>by cases hx;simp only[wm];exact fun _=>i1⟩,.inr ⟨(D++M,((2*n:Nat):Int)),by simp only[em,cond_true];rw[i2],by simp only;omega,D++M,2*n,rfl,by omega,by omega,p3.app (.last (by omega) i4),p5.trans ((SameF.refl D).app i3)⟩⟩
   ·have em:decide (((D.length+n:Nat):Int) < (l.length:Int))=false:=by rw[decide_eq_false_iff_not];omega
    refine⟨fun _=>⟨p1,(fun z h=>by cases h),fun x hx=>by cases hx;simp only[wm,em];exact fun h=>by cases h⟩,.inr ⟨(D++R,((2*n:Nat):Int)),by simp only[em,cond_false],by simp only;omega,D++R,2*n,rfl,by omega,by omega,p3.app (.last (by omega) (p4.srt (by omega))),p5⟩⟩
  ·have e:decide ((n:Int) < (l.length:Int))=false:=by rw[decide_eq_false_iff_not];omega
   unfold bM bi
   simp only[e,cond_false]
   exact⟨(fun h=>by cases h),.inl ⟨_,rfl,hF,hB.srt (by omega)⟩⟩
 unfold bC bR
 rw[k2]
 simp only[i2,m2]
 exact⟨⟨k1,(fun z h=>by cases h),fun x hx=>by cases hx;simp only[i2];exact⟨i1,m1,fun z h=>by rw[m2]at h;cases h⟩⟩,sp m3 m4⟩
theorem B5 (l:List Deed)(hl:l.length<2 ^ 58):ba l∧bq l=stS l:=⟨fun _=>(za l hl).1,(za l hl).2⟩
end Go.Sx
end
section
namespace Go.Sx
open Go.Proofs
set_option maxRecDepth 100000
set_option linter.unusedSimpArgs false
def db (x:Deed)(n:Int)(m_:List (RegisterTitle×Int)):List (RegisterTitle×Int):=(fL .registerTitle .int m_ ({ right:=x.right,farm:=x.to}:RegisterTitle) (IntKind.i64.wrap ((dz .registerTitle .int m_ ({ right:=x.right,farm:=x.to}:RegisterTitle))+n)))
noncomputable def iy:List SV→List Ob→Option HCon:=gF (fun x_:Deed×Int×(List (RegisterTitle×Int)) =>[.os 0,.agg (cellsOf .deed x_.1),.v (.int .i64 x_.2.1)]) (fun x_=>[.mp .registerTitle .int x_.2.2 none]) (fun x_=>eM True (.tup []) [.mp .registerTitle .int (db x_.1 x_.2.1 x_.2.2) none])
@[go_sem] theorem zb (x:Deed)(n:Int)(m_:List (RegisterTitle×Int)){p0_:Option (Nat×Option Tag.registerTitle.T)}(hp0_:p0_=none):iy ([.os 0,.agg [.v (.int .i64 x.no),.v (.int .i64 x.kind),.v (.int .i64 x.right),.v (.int .i64 x.since),.v (.int .i64 x.to),.rs .part x.parts,.v (.int .i64 x.of_),.v (.int .i64 x.at_),.v (.int .i64 x.known)],.v (.int .i64 n)]) ([.mp .registerTitle .int m_ p0_])=some (eM True (.tup []) [.mp .registerTitle .int (db x n m_) none]):=by
 subst hp0_;exact eB (A:=fun x_:Deed×Int×(List (RegisterTitle×Int)) =>[.os 0,.agg (cellsOf .deed x_.1),.v (.int .i64 x_.2.1)]) (H:=fun x_=>[.mp .registerTitle .int x_.2.2 none]) (K:=fun x_=>eM True (.tup []) [.mp .registerTitle .int (db x_.1 x_.2.1 x_.2.2) none]) (x:=(x,n,m_))
theorem pK:FnOkO Tryz.prog 98 (iy):=by
 have hG:ConsOk Tryz.prog (mkG [] []):=ay cg0 cg0
 refine fR mixed am hG (fn:=Tryz.f98) (c:=ae Tryz.f98) (by kernel_rfl) (by kernel_rfl) (by kernel_rfl) (by kernel_rfl) fun l o con h=>?_
 obtain⟨⟨x,n,m_⟩,rfl,rfl,rfl⟩:=dy h
 clear h
 try dsimp only
 refine⟨_,_,_,rfl,fun hp=>?_⟩
 refine⟨Nat.le_of_ble_eq_true rfl,L0,?_,?_⟩
 ·unfold ae Tryz.f98
  simp only[al,and_self,true_and,and_true]
 ·unfold ae Tryz.f98
  try unfold db
  simp only[go_sem,Nat.reduceBEq,Nat.reduceLeDiff,Nat.reduceLT,decide_true,Nat.reduceAdd,Nat.reduceSub,Nat.reduceMul,Int.reduceLE,Int.reduceLT,Int.reduceToNat,Int.reduceNeg,reduceCtorEq]
  all_goals exact gN
@[go_sem] def bw (x:Deed)(n:Int)(k_0:Nat)(s_0:List (RegisterTitle×Int)×Int):Empty⊕(List (RegisterTitle×Int)×Int):=.inr ((fL .registerTitle .int s_0.1 ({ right:=x.right,farm:=(x.parts.getD k_0 (default:Part)).farm}:RegisterTitle) (IntKind.i64.wrap ((dz .registerTitle .int s_0.1 ({ right:=x.right,farm:=(x.parts.getD k_0 (default:Part)).farm}:RegisterTitle))+(ei ((x.parts.getD k_0 (default:Part)).share) n).1))),(IntKind.i64.wrap (s_0.2 - (ei ((x.parts.getD k_0 (default:Part)).share) n).1)))
@[go_sem] def eQ (x:Deed)(s_0:List (RegisterTitle×Int)×Int)(k_1:Nat)(s_1:List (RegisterTitle×Int)):Empty⊕(List (RegisterTitle×Int)):=.inr (fL .registerTitle .int s_1 ({ right:=x.right,farm:=(((x.parts.take (Int.toNat s_0.2)).drop 0).getD k_1 (default:Part)).farm}:RegisterTitle) (IntKind.i64.wrap ((dz .registerTitle .int s_1 ({ right:=x.right,farm:=(((x.parts.take (Int.toNat s_0.2)).drop 0).getD k_1 (default:Part)).farm}:RegisterTitle))+1)))
def cp (x:Deed)(n:Int)(m_:List (RegisterTitle×Int)):List (RegisterTitle×Int):=(match ak (bw x n) x.parts.length 0 (m_,n)with| .inl x=>x.elim| .inr s_0=>(match ak (eQ x s_0) (((x.parts.take (Int.toNat s_0.2)).drop 0).length) 0 s_0.1 with| .inl x=>x.elim| .inr s_1=>s_1))
def dD (x:Deed)(n:Int)(m_:List (RegisterTitle×Int)):Prop:=(x.parts.length≤bv→(∀ s_0,ak (bw x n) x.parts.length 0 (m_,n)=.inr s_0→(0≤0∧0≤s_0.2∧s_0.2≤(x.parts.length:Int))))
noncomputable def g8:List SV→List Ob→Option HCon:=gF (fun x_:Deed×Int×(List (RegisterTitle×Int)) =>[.os 0,.agg (cellsOf .deed x_.1),.v (.int .i64 x_.2.1)]) (fun x_=>[.mp .registerTitle .int x_.2.2 none]) (fun x_=>eM (dD x_.1 x_.2.1 x_.2.2) (.tup []) [.mp .registerTitle .int (cp x_.1 x_.2.1 x_.2.2) none])
@[go_sem] theorem yf (x:Deed)(n:Int)(m_:List (RegisterTitle×Int)){p0_:Option (Nat×Option Tag.registerTitle.T)}(hp0_:p0_=none):g8 ([.os 0,.agg [.v (.int .i64 x.no),.v (.int .i64 x.kind),.v (.int .i64 x.right),.v (.int .i64 x.since),.v (.int .i64 x.to),.rs .part x.parts,.v (.int .i64 x.of_),.v (.int .i64 x.at_),.v (.int .i64 x.known)],.v (.int .i64 n)]) ([.mp .registerTitle .int m_ p0_])=some (eM (dD x n m_) (.tup []) [.mp .registerTitle .int (cp x n m_) none]):=by
 subst hp0_;exact eB (A:=fun x_:Deed×Int×(List (RegisterTitle×Int)) =>[.os 0,.agg (cellsOf .deed x_.1),.v (.int .i64 x_.2.1)]) (H:=fun x_=>[.mp .registerTitle .int x_.2.2 none]) (K:=fun x_=>eM (dD x_.1 x_.2.1 x_.2.2) (.tup []) [.mp .registerTitle .int (cp x_.1 x_.2.1 x_.2.2) none]) (x:=(x,n,m_))
theorem pf:FnOkO Tryz.prog 99 (g8):=by
 have hG:ConsOk Tryz.prog (mkG [(32,rN)] []):=ay (cgc xj cg0) cg0
 refine fR mixed am hG (fn:=Tryz.f99) (c:=ae Tryz.f99) (by kernel_rfl) (by kernel_rfl) (by kernel_rfl) (by kernel_rfl) fun l o con h=>?_
 obtain⟨⟨x,n,m_⟩,rfl,rfl,rfl⟩:=dy h
 clear h
 try dsimp only
 refine⟨_,_,_,rfl,fun hp=>?_⟩
 unfold dD at hp
 refine⟨Nat.le_of_ble_eq_true rfl,(fun id st=>bif Nat.beq id 0 then some (LCR (ρ:=Empty) (σ:=(List (RegisterTitle×Int)×Int)) 2 [] [0,1] (fun k_0 s_0=>⟨[(0,.os 0),(2,.v (.int .i64 n)),(4,.ptr 1 0),(6,.v (.int .i64 s_0.2)),(16,.rs .part x.parts),(17,.v (.int .i64 (x.parts.length:Int))),(18,.v (.int .i64 (k_0:Int)))],[.mp .registerTitle .int s_0.1 none,.cells (cellsOf .deed x)]⟩) (bw x n) pT x.parts.length (m_,n) (x.parts.length≤bv) ((·.elim)) ((·.elim)) st)else bif Nat.beq id 2 then some (LCR (ρ:=Empty) (σ:=(List (RegisterTitle×Int))) 2 [] [0,1] (fun k_1 s_1=>⟨[(0,.os 0),(4,.ptr 1 0),(48,.rs .part ((x.parts.take (Int.toNat (aX (ak (bw x n) x.parts.length 0 (m_,n))).2)).drop 0)),(49,.v (.int .i64 (((x.parts.take (Int.toNat (aX (ak (bw x n) x.parts.length 0 (m_,n))).2)).drop 0).length:Int))),(50,.v (.int .i64 (k_1:Int)))],[.mp .registerTitle .int s_1 none,.cells (cellsOf .deed x)]⟩) (eQ x (aX (ak (bw x n) x.parts.length 0 (m_,n)))) pT (((x.parts.take (Int.toNat (aX (ak (bw x n) x.parts.length 0 (m_,n))).2)).drop 0).length) ((aX (ak (bw x n) x.parts.length 0 (m_,n))).1) (((x.parts.take (Int.toNat (aX (ak (bw x n) x.parts.length 0 (m_,n))).2)).drop 0).length≤bv) ((·.elim)) ((·.elim)) st)else none),?_,?_⟩
 ·unfold ae Tryz.f99
  simp only[al,true_and,and_true,and_assoc]
  refine⟨?_,?_⟩
  ·refine eh mixed am hG (by kernel_rfl) (fun _=>rfl) (x.parts.length:Int) rfl gM (fun hb0 k_0 s_0 hlt0 _ hw hc=>⟨L0,ah _,?_⟩) (fun hb0 s_0 hc=>?_)
   ·exact qq
   ·exact qr
  ·refine eh mixed am hG (by kernel_rfl) (fun _=>rfl) (((x.parts.take (Int.toNat (aX (ak (bw x n) x.parts.length 0 (m_,n))).2)).drop 0).length:Int) rfl gM (fun hb1 k_1 s_1 hlt1 _ hw hc=>⟨L0,ah _,?_⟩) (fun hb1 s_1 hc=>?_)
   ·exact qq
   ·exact qr
 ·unfold ae Tryz.f99
  try unfold cp
  simp only[go_sem,Nat.reduceBEq,Nat.reduceLeDiff,Nat.reduceLT,decide_true,Nat.reduceAdd,Nat.reduceSub,Nat.reduceMul,Int.reduceLE,Int.reduceLT,Int.reduceToNat,Int.reduceNeg,reduceCtorEq]
  all_goals exact gN
def ri (x:Deed)(n:Int)(m_:List (RegisterTitle×Int)):Unit:=()
noncomputable def g9:List SV→List Ob→Option HCon:=gF (fun x_:Deed×Int×(List (RegisterTitle×Int)) =>[.os 0,.agg (cellsOf .deed x_.1),.v (.int .i64 x_.2.1)]) (fun x_=>[.mp .registerTitle .int x_.2.2 none]) (fun x_=>eM True (.tup []) [.mp .registerTitle .int x_.2.2 none])
@[go_sem] theorem yg (x:Deed)(n:Int)(m_:List (RegisterTitle×Int)){p0_:Option (Nat×Option Tag.registerTitle.T)}(hp0_:p0_=none):g9 ([.os 0,.agg [.v (.int .i64 x.no),.v (.int .i64 x.kind),.v (.int .i64 x.right),.v (.int .i64 x.since),.v (.int .i64 x.to),.rs .part x.parts,.v (.int .i64 x.of_),.v (.int .i64 x.at_),.v (.int .i64 x.known)],.v (.int .i64 n)]) ([.mp .registerTitle .int m_ p0_])=some (eM True (.tup []) [.mp .registerTitle .int m_ none]):=by
 subst hp0_;exact eB (A:=fun x_:Deed×Int×(List (RegisterTitle×Int)) =>[.os 0,.agg (cellsOf .deed x_.1),.v (.int .i64 x_.2.1)]) (H:=fun x_=>[.mp .registerTitle .int x_.2.2 none]) (K:=fun x_=>eM True (.tup []) [.mp .registerTitle .int x_.2.2 none]) (x:=(x,n,m_))
theorem pg:FnOkO Tryz.prog 100 (g9):=by
 have hG:ConsOk Tryz.prog (mkG [] []):=ay cg0 cg0
 refine fR mixed am hG (fn:=Tryz.f100) (c:=ae Tryz.f100) (by kernel_rfl) (by kernel_rfl) (by kernel_rfl) (by kernel_rfl) fun l o con h=>?_
 obtain⟨⟨x,n,m_⟩,rfl,rfl,rfl⟩:=dy h
 clear h
 try dsimp only
 refine⟨_,_,_,rfl,fun hp=>?_⟩
 refine⟨Nat.le_of_ble_eq_true rfl,L0,?_,?_⟩
 ·unfold ae Tryz.f100
  simp only[al,and_self,true_and,and_true]
 ·unfold ae Tryz.f100
  try unfold ri
  simp only[go_sem,Nat.reduceBEq,Nat.reduceLeDiff,Nat.reduceLT,decide_true,Nat.reduceAdd,Nat.reduceSub,Nat.reduceMul,Int.reduceLE,Int.reduceLT,Int.reduceToNat,Int.reduceNeg,reduceCtorEq]
  all_goals exact gN
end Go.Sx
end
section
namespace Go.Sx
def Oq {α:Type}:Result α→World
 | .ok _ w=>w
 | .halt _ w=>w
theorem DP {α:Type}:∀ (a:Ask α) (w:World),w.drawn≤(w.ask a).2.drawn
 | .done a,w=>Nat.le_refl _
 | .ask what range k,w=>by
  unfold World.ask
  dsimp only
  split
  ·exact DP _ w
  ·exact Nat.le_trans (Nat.le_succ _) (DP _ { w with drawn:=w.drawn+1})
theorem Ot (w:World)(c:Sys):w.drawn≤(w.sys c).2.drawn:=by
 unfold World.sys
 have:=DP (Kernel.perform c w.os) w
 split
 ·exact Nat.le_refl _
 ·rename_i h
  rw[h]at this
  exact this
theorem B6 {p:Program}{w w':World}{a:Addr}{v:Value}{b:Bool}{l:List Addr}(h:w.farStore p a v b=.ok (w',l)):w'.drawn=w.drawn:=by
 unfold World.farStore at h
 split at h
 ·split at h
  ·rename_i r hr
   cases h
   unfold World.viewStore at hr
   simp only[bind,Except.bind,pure,Except.pure]at hr
   repeat' split at hr
   all_goals (first|(cases hr;done) |skip)
   all_goals (cases hr;rfl)
  ·cases h
 ·cases h
theorem Au {α:Type}(p:Program):∀ (s:Sem α) (w:World),w.drawn≤(Oq (s.run p w)).drawn:=by
 intro s
 induction s with
 |pure a=>intro w;exact Nat.le_refl _
 |load m a k ih=>
  intro w
  unfold Sem.run
  split
  ·exact ih _ w
  ·split
   ·exact ih _ w
   ·exact Nat.le_refl _
 |store m a v k ih=>
  intro w
  cases v
  case agg=>exact Nat.le_refl _
  case tuple=>exact Nat.le_refl _
  all_goals
   simp only[Sem.run]
   split
   ·split
    ·exact Nat.le_refl _
    ·exact ih (w.setCell a _)
   ·split
    ·rename_i h
     rw[←B6 h];exact ih _
    ·exact Nat.le_refl _
 |new o k ih=>intro w;exact ih w.heap.size { w with heap:=w.heap.push o}
 |shape r k ih=>intro w;exact ih _ _
 |freeze a n k ih=>
  intro w
  have:(w.freeze a n).drawn=w.drawn:=by unfold World.freeze;split <;>rfl
  rw[←this];exact ih _
 |frozen a k ih=>intro w;exact ih _ _
 |getObj r k ih=>
  intro w
  unfold Sem.run
  split
  ·exact Nat.le_refl _
  ·exact ih _ _
  ·exact Nat.le_refl _
 |setObj r o k ih=>
  intro w
  unfold Sem.run
  split
  ·exact Nat.le_refl _
  ·exact ih { w with heap:=w.heap.setIfInBounds r o}
  ·exact Nat.le_refl _
 |choose q k ih=>
  intro w
  unfold Sem.run
  split
  ·exact ih _ _
  ·exact Nat.le_trans (Nat.le_succ _) (ih _ { w with drawn:=w.drawn+1})
 |sys c k ih=>intro w;exact Nat.le_trans (Ot w c) (ih _ _)
 |program k ih=>intro w;exact ih _ _
 |mark m k ih=>intro w;exact ih _
 |halt h=>intro w;exact Nat.le_refl _
theorem IB {α:Type}(p:Program):∀ (s:Sem α) (w:World) (es:Array Event),(s.runT p w es).1=s.run p w:=by
 intro s
 induction s with
 |store m a v k ih=>
  intro w es
  cases v
  case agg=>rfl
  case tuple=>rfl
  all_goals
   simp only[Sem.runT,Sem.run]
   split
   ·split
    ·rfl
    ·exact ih _ _
   ·split
    ·exact ih _ _
    ·rfl
 |load m a k ih=>
  intro w es
  simp only[Sem.runT,Sem.run]
  split
  ·exact ih _ _ _
  ·split
   ·exact ih _ _ _
   ·rfl
 |getObj r k ih=>
  intro w es
  simp only[Sem.runT,Sem.run]
  split
  ·rfl
  ·exact ih _ _ _
  ·rfl
 |setObj r o k ih=>
  intro w es
  simp only[Sem.runT,Sem.run]
  split
  ·rfl
  ·exact ih _ _
  ·rfl
 |choose q k ih=>
  intro w es
  simp only[Sem.runT,Sem.run]
  split
  ·exact ih _ _ _
  ·exact ih _ _ _
 |pure a=>intro w es;rfl
 |new o k ih=>intro w es;exact ih _ _ _
 |shape r k ih=>intro w es;exact ih _ _ _
 |freeze a n k ih=>intro w es;exact ih _ _
 |frozen a k ih=>intro w es;exact ih _ _ _
 |sys c k ih=>intro w es;exact ih _ _ _
 |program k ih=>intro w es;exact ih _ _ _
 |mark m k ih=>intro w es;exact ih _ _
 |halt h=>intro w es;rfl
theorem iz {α:Type}{p:Program}{s:Sem α}{w w':World}{a:α}(h:s.run p w=.ok a w'):w.drawn≤w'.drawn:=by have:=Au p s w;rw[h]at this;exact this
theorem IC {α:Type}{p:Program}{s:Sem α}{w w':World}{a:Halt}(h:s.run p w=.halt a w'):w.drawn≤w'.drawn:=by have:=Au p s w;rw[h]at this;exact this
theorem mQ {α:Type}{p:Program}{s:Sem α}{w:World}{es es':Array Event}{r:Result α}(h:s.runT p w es=(r,es')):w.drawn≤(Oq r).drawn:=by
 have:=IB p s w es
 rw[h]at this
 have h2:=Au p s w
 rw[←this]at h2
 exact h2
def gLe (w:World):GStep→Prop
 | .ended .. =>True
 | .go _ w' _| .comm _ _ _ _ w' _| .spawn _ _ w' _| .count _ w' _| .timer _ _ w' _| .alone _ _ w' _| .newcoro _ _ _ w' _| .coroswitch _ _ _ w' _| .collect _ w' _| .watch _ w' _=>w.drawn≤w'.drawn
theorem gLe.after {w:World}{es:Array Event}{s:GStep}(h:gLe w s):gLe w (s.after es):=by cases s <;>exact h
theorem gLe.trans {w w':World}{s:GStep}(h1:w.drawn≤w'.drawn)(h:gLe w' s):gLe w s:=by cases s <;>first|trivial|exact Nat.le_trans h1 h
theorem tB {c:Prop}[Decidable c]{w:World}{a b:GStep}(h1:gLe w a)(h2:gLe w b):gLe w (if c then a else b):=by split <;>assumption
theorem nX (fr:Frame)(m:String)(w:World):gLe w (endThrow fr m w):=Nat.le_refl _
theorem qt (p:Program)(fr:Frame)(v:Value)(w:World):gLe w (endPrinting p fr v w):=by
 unfold endPrinting
 dsimp only
 split
 ·exact nX _ _ _
 ·trivial
theorem u9 (p:Program)(fr:Frame)(callers:List Frame)(dying:Option Dying)(m:String)(w:World):gLe w (endFatal p fr callers dying m w):=by
 unfold endFatal
 extract_lets
 split
 ·rename_i h;exact iz h
 ·trivial
 ·trivial
theorem DQ (p:Program)(fr:Frame)(d:Dying)(f:Fatal)(w:World):gLe w (writeOn p fr d f w):=by
 unfold writeOn
 extract_lets
 split
 ·trivial
 ·extract_lets
  generalize h:Sem.runT _ _ _ _=rr
  obtain⟨r,es⟩:=rr
  have h:=mQ h
  split
  ·rename_i e;cases e;exact h
  ·rename_i e;cases e;exact h
  ·trivial
  ·trivial
theorem DR (w w':World)(fd:Nat)(t:ByteArray)(o:Outcome):gLe w (endWith w' fd t o):=by
 unfold endWith
 extract_lets
 split
 ·split <;>trivial
 ·trivial
 ·trivial
theorem Ou (p:Program)(fr:Frame)(d:Dying)(w:World):gLe w (die p fr d w):=by
 unfold die
 split
 ·exact DQ _ _ _ _ _
 ·split
  ·split
   ·exact Nat.le_refl _
   ·exact DR _ _ _ _ _
  ·extract_lets
   split
   ·exact Nat.le_refl _
   ·split
    ·rename_i h;exact iz h
    ·trivial
   ·split
    rename_i h
    have h:=mQ h
    refine gLe.after ?_
    split
    all_goals first|exact h|trivial|exact gLe.trans h (qt _ _ _ _)
   ·trivial
theorem qu (p:Program)(main:Bool)(fr:Frame)(callers:List Frame)(dying:Option Dying)(v:Value)(w:World):gLe w (doReturn p main fr callers dying v w):=by
 unfold doReturn
 split
 ·split
  all_goals exact Nat.le_refl _
 ·split
  ·exact Nat.le_refl _
  ·trivial
  ·split
   ·exact Nat.le_refl _
   ·split
    ·exact Nat.le_refl _
    ·trivial
theorem vC (p:Program)(fr:Frame)(callers:List Frame)(dying:Option Dying)(d:Deferred)(w:World):gLe w (callDeferred p fr callers dying d w):=by
 unfold callDeferred
 refine tB trivial ?_
 rcases h:(invoke d.target d.args).runT p w #[]with⟨r,es⟩
 have h:=mQ h
 dsimp only
 refine gLe.after ?_
 split
 all_goals first|exact h|trivial|exact gLe.trans h (u9 _ _ _ _ _ _) |exact gLe.trans h (nX _ _ _) |skip
 split <;>exact h
theorem Gk (p:Program)(main:Bool)(fr:Frame)(callers:List Frame)(dying:Option Dying)(w:World):gLe w (unwind p main fr callers dying w):=by
 unfold unwind
 split
 ·split
  rename_i h
  have h:=mQ h
  refine gLe.after ?_
  split
  ·exact h
  ·trivial
 ·exact vC _ _ _ _ _ _
 ·split
  ·trivial
  ·split
   ·trivial
   ·split
    ·exact Nat.le_refl _
    ·split
     ·split
      ·exact Nat.le_refl _
      ·split
       ·rename_i h;exact iz h
       ·trivial
       ·trivial
     ·split
      ·exact qt _ _ _ _
      ·trivial
  ·split
   ·exact qu _ _ _ _ _ _ _
   ·split
    rename_i h
    have h:=mQ h
    refine gLe.after ?_
    split
    ·exact gLe.trans h (qu _ _ _ _ _ _ _)
    ·trivial
    ·trivial
theorem ID (p:Program)(fr:Frame)(callers:List Frame)(dying:Option Dying)(g:Nat)(w:World):gLe w (early p fr callers dying g w):=by
 unfold early
 extract_lets refuse notYet there
 have hn:∀ w0:World,w.drawn≤w0.drawn→gLe w (notYet w0):=fun w0 h0=>by
  show gLe w (match w0.heap[g]? with|some (.pending c elem) =>_|_=>_)
  split
  ·exact h0
  ·trivial
 split
 ·exact hn w (Nat.le_refl _)
 ·split
  ·trivial
  ·extract_lets there
   have ht:∀ w0:World,w.drawn≤w0.drawn→gLe w (there w0):=fun w0 h0=>h0
   split
   ·exact hn w (Nat.le_refl _)
   ·split
    ·exact hn w (Nat.le_refl _)
    ·split
     ·trivial
     ·exact ht w (Nat.le_refl _)
     ·trivial
     ·exact hn w (Nat.le_refl _)
     ·split
      ·exact ht w (Nat.le_refl _)
      ·split
       ·exact hn w (Nat.le_refl _)
       ·split
        ·rename_i h;exact hn _ (iz h)
        ·rename_i h;exact ht _ (iz h)
        ·trivial
end Go.Sx
end
section
namespace Go.Sx
theorem qw (p:Program)(listen:Bool)(fr:Frame)(callers:List Frame)(dying:Option Dying)(s:Sem Next)(w:World):gLe w (Go.stepG.apply p listen fr callers dying s w):=by
 unfold Go.stepG.apply
 extract_lets go kind
 have hr:∃ r es,(if listen=true then s.runT p w #[]else(s.run p w,#[]))=(r,es)∧w.drawn≤(Oq r).drawn:=by
  split
  ·rcases h:s.runT p w #[]with⟨r,es⟩
   exact⟨r,es,rfl,mQ h⟩
  ·exact⟨_,_,rfl,Au p s w⟩
 obtain⟨r,es,he,h⟩:=hr
 rw[he]
 dsimp only
 refine gLe.after ?_
 have hgo:∀ fr w0,w.drawn≤w0.drawn→gLe w (go fr w0):=fun fr w0 h0=>h0
 split
 all_goals first|exact h|trivial|exact hgo _ _ h|exact gLe.trans h (u9 _ _ _ _ _ _) |exact gLe.trans h (nX _ _ _) |exact gLe.trans h (ID _ _ _ _ _ _) |skip
 all_goals first|(refine tB (gLe.trans h (nX _ _ _)) ?_;exact h) |(split <;>first|exact h|trivial|exact hgo _ _ h)
theorem Ll (p:Program)(listen:Bool)(fr:Frame)(callers:List Frame)(dying:Option Dying)(w:World):gLe w (Go.stepG.oper p listen fr callers dying w):=by
 unfold Go.stepG.oper
 split
 ·trivial
 ·split
  ·exact qw _ _ _ _ _ _ _
  ·exact qw _ _ _ _ _ _ _
theorem EZ {α:Type}{w:World}{o:Option α}{a:GStep}{f:α→GStep}(h1:gLe w a)(h2:∀ x,gLe w (f x)):gLe w (o.elim a f):=by cases o;exact h1;exact h2 _
theorem Lm (p:Program)(main listen:Bool)(fr:Frame)(callers:List Frame)(dying:Option Dying)(w:World):gLe w (Go.stepG.exec p main listen fr callers dying w):=by
 unfold Go.stepG.exec
 extract_lets go to lost leave
 have hgo:∀ fr w0,w.drawn≤w0.drawn→gLe w (go fr w0):=fun fr w0 h0=>h0
 have hto:∀ k,gLe w (to k):=fun k=>Nat.le_refl _
 have hlost:∀ m,gLe w (lost m):=fun _=>trivial
 have hleave:∀ j,gLe w (leave j):=fun j=>by
  show gLe w (match fr.roundOf with|none=>_|some l=>_)
  split
  ·refine tB (hgo _ _ (Nat.le_refl _)) trivial
  ·rcases h:(Instr.endRound _ j).runT p w #[]with⟨r,es⟩
   have h:=mQ h
   dsimp only
   refine gLe.after ?_
   split
   ·exact gLe.trans h (qu _ _ _ _ _ _ _)
   ·trivial
 have hgo1:∀ fr,gLe w (go fr w):=fun fr=>Nat.le_refl _
 clear_value to lost leave
 split
 all_goals first|exact hleave _|exact hto _|exact hlost _|trivial|exact EZ (hleave _) hto|exact qw _ _ _ _ _ _ _|exact EZ (hlost _) (fun _=>qw _ _ _ _ _ _ _) |skip
 ·split
  ·exact hto _
  ·exact hlost _
 ·rcases h:(Instr.enterLoop fr.fn fr.tmps _ _ _ fr.roundOf).runT p w #[]with⟨r,es⟩
  have h:=mQ h
  dsimp only
  refine gLe.after ?_
  split
  ·exact gLe.trans h (qw _ _ _ _ _ _ _)
  ·trivial
 ·rcases h:(Instr.endLoop _).runT p w #[]with⟨r,es⟩
  have h:=mQ h
  dsimp only
  refine gLe.after ?_
  split
  ·exact hgo _ _ h
  ·exact hgo _ _ h
  ·trivial
 ·refine tB (hto _) ?_
  split
  ·rename_i h;exact hgo _ _ (iz h)
  ·trivial
 ·exact tB (Ll _ _ _ _ _ _) (hgo1 _)
theorem IE (p:Program)(main:Bool)(g:Goroutine)(w:World)(listen:Bool):gLe w (Go.stepG p main g w listen):=by
 unfold Go.stepG
 obtain⟨fr,callers,st,dying,off⟩:=g
 dsimp only
 split
 ·exact Ou _ _ _ _
 ·exact Lm _ _ _ _ _ _ _
 ·exact Gk _ _ _ _ _ _
def sLe (w:World):Stepped→Prop
 | .next m=>w.drawn≤m.world.drawn
 | .ended .. =>True
theorem sLe.trans {w w':World}{s:Stepped}(h1:w.drawn≤w'.drawn)(h:sLe w' s):sLe w s:=by cases s <;>first|trivial|exact Nat.le_trans h1 h
theorem E0 {c:Prop}[Decidable c]{w:World}{a b:Stepped}(h1:sLe w a)(h2:sLe w b):sLe w (if c then a else b):=by split <;>assumption
theorem E1 (p:Program)(gs:Array Goroutine)(rest:Rest)(w:World):sLe w (look p gs rest w):=by
 unfold look
 split
 ·extract_lets
  refine E0 trivial ?_
  split
  ·trivial
  ·extract_lets
   split
   ·rename_i h
    have h:=iz h
    exact h
   ·trivial
   ·trivial
 ·trivial
theorem Av {rest:Rest}{cases:Array CommCase}{w w':World}(h:waitingAt rest cases w=some w'):w.drawn≤w'.drawn:=by
 unfold waitingAt at h
 split at h
 ·split at h
  ·cases h;exact Nat.le_refl _
  ·cases h
 ·cases h;exact Nat.le_refl _
theorem xy (p:Program)(rest:Rest)(gs:Array Goroutine)(i:Nat)(g:Goroutine)(cases:Array CommCase)(bl:Bool)(shape:CommShape)(w:World):sLe w (communicate p rest gs i g cases bl shape w).1:=by
 unfold communicate
 extract_lets put illMade me other
 have hput:∀ g gs w0 ops,w.drawn≤w0.drawn→sLe w (put g gs w0 ops).1:=fun _ _ _ _ h=>h
 split
 ·trivial
 ·split
  ·split
   ·split
    ·rename_i h;exact Av h
    ·trivial
   ·exact hput _ _ _ _ (Nat.le_refl _)
  ·split
   ·trivial
   ·rename_i h
    have hw:=iz h
    clear h
    extract_lets r
    split
    ·split
     ·rename_i h2;exact hput _ _ _ _ (Nat.le_trans hw (IC h2))
     ·trivial
    ·exact hput _ _ _ _ hw
    ·exact hput _ _ _ _ hw
    ·extract_lets
     split
     ·exact hput _ _ _ _ hw
     ·split
      ·rename_i h2;have h3:=iz h2;exact hput _ _ _ _ (Nat.le_trans hw h3)
      ·trivial
    ·exact hput _ _ _ _ hw
    ·exact hput _ _ _ _ hw
    ·trivial
theorem zc (m:Machine)(k:Nat)(t:Timer)(a b:Nat):m.world.drawn≤(retime m k t a b).2.world.drawn:=by
 unfold retime drain
 dsimp only
 repeat' split
 all_goals first|exact Nat.le_refl _|skip
 all_goals (simp_all;try omega)
theorem DS {m m':Machine}{op:TimerOp}{v:Value}(h:timerOp m op=.ok (v,m')):m.world.drawn≤m'.world.drawn:=by
 have named:∀ (D:Nat) (m0:Machine) var f,(∀ k t,D≤(f k t).2.world.drawn)→timerOp.named m0 var f=.ok (v,m')→D≤m'.world.drawn:=fun D m0 var f hf h=>by
  unfold timerOp.named at h
  split at h
  ·injection h with h
   exact Nat.le_trans (hf _ _) (Nat.le_of_eq (congrArg (fun x:Value×Machine=>x.2.world.drawn) h))
  ·cases h
 unfold timerOp at h
 split at h
 ·split at h
  ·cases h;exact Nat.le_refl _
  ·split at h
   ·split at h
    ·cases h
    ·cases h;exact Nat.le_refl _
   ·cases h
 ·exact named _ _ _ _ (fun k t=>zc _ _ _ _ _) h
 ·split at h
  ·rename_i m1 ho
   have h1:m.world.drawn≤m1.world.drawn:=by
    unfold timerOp.opened at ho
    split at ho
    ·split at ho
     ·cases ho;exact Nat.le_refl _
     ·cases ho
    ·cases ho;exact Nat.le_refl _
   exact Nat.le_trans h1 (named m1.world.drawn _ _ _ (fun k t=>zc _ _ _ _ _) h)
  ·cases h
 ·cases h;exact Nat.le_refl _
theorem IF (p:Program)(m:Machine)(i:Nat)(listen:Bool):sLe m.world (Go.runT p m i listen).1:=by
 unfold Go.runT
 extract_lets rest world
 split
 extract_lets wake fn pos s ops done
 have hs:gLe m.world s:=IE _ _ _ _ _
 have hd:∀ r,(done r).1=r:=fun r=>rfl
 clear_value s done
 split
 all_goals try rw[hd]
 ·trivial
 ·split
  rename_i h
  have:=xy p rest ‹_› i ‹_› ‹_› ‹_› ‹_› ‹_›
  rw[h]at this
  exact sLe.trans hs this
 ·exact hs
 ·exact hs
 ·exact E0 trivial hs
 ·exact hs
 ·exact sLe.trans hs (E1 _ _ _ _)
 ·exact hs
 ·exact hs
 ·split
  ·exact hs
  ·split
   ·rename_i h
    simp only[endThrow,dieOf]at h
    cases h
    exact hs
   ·trivial
  ·trivial
 ·split
  ·rename_i h;exact Nat.le_trans hs (DS h)
  ·exact hs
  ·trivial
  ·trivial
theorem IG (p:Program)(m:Machine)(k:Nat):sLe m.world (serve p m k):=by
 unfold serve
 split
 ·trivial
 ·exact Nat.le_refl _
 ·extract_lets
  split
  ·trivial
  ·exact Nat.le_refl _
def mLe (w:World):Move→Prop
 | .goroutine m _=>w.drawn≤m.world.drawn
 | .machine s _=>sLe w s
theorem mLe.trans {w w':World}{s:Move}(h1:w.drawn≤w'.drawn)(h:mLe w' s):mLe w s:=by
 cases s
 ·exact Nat.le_trans h1 h
 ·exact sLe.trans h1 h
theorem xz (p:Program)(m:Machine):mLe m.world (askOn p m):=by
 unfold askOn
 extract_lets mono rs ds pick
 have hpick:∀ m0:Machine,m.world.drawn≤m0.world.drawn→mLe m.world (pick m0):=fun m0 h0=>by
  show mLe m.world (match (choose (.sched rs.length)).run p m0.world with| .halt _ w=>_| .ok k world=>_)
  split
  ·trivial
  ·rename_i h
   have h1:=iz h
   split
   ·exact Nat.le_trans h0 h1
   ·split
    ·trivial
    ·rename_i h2
     have h2:=iz h2
     exact Nat.le_trans h0 (Nat.le_trans h1 h2)
 clear_value pick rs ds
 split
 ·trivial
 ·rename_i h
  have hw:=iz h
  clear h
  extract_lets m1
  split
  ·exact sLe.trans hw (IG p _ _)
  ·cases rs with
   |nil=>
    dsimp only
    split
    ·exact hw
    ·split
     ·exact hw
     ·split <;>trivial
   |cons r rs=>
    dsimp only
    split
    ·exact hpick _ hw
    ·split
     ·trivial
     ·rename_i h;have h2:=iz h;exact hpick _ (Nat.le_trans hw h2)
     ·rename_i h;have h2:=iz h;exact Nat.le_trans hw h2
     ·rename_i h;have h2:=iz h;exact hpick _ (Nat.le_trans hw h2)
theorem B7 (p:Program)(m:Machine):mLe m.world (ask p m):=by
 unfold ask
 split
 ·split
  ·trivial
  ·rename_i h
   have hw:=iz h
   have:=E1 p m.gs m.rest ‹World›
   split
   ·rename_i m2 h2
    rw[h2]at this
    exact mLe.trans (Nat.le_trans hw this) (xz p _)
   ·rename_i e h2
    exact sLe.trans hw this
  ·rename_i h
   have hw:=iz h
   exact mLe.trans hw (xz p _)
 ·exact xz p m
theorem Ln (p:Program)(m:Machine):mLe m.world (move p m):=by
 unfold move
 split
 ·split
  ·exact Nat.le_refl _
  ·trivial
 ·split
  ·split
   ·exact Nat.le_refl _
   ·exact B7 p _
  ·exact B7 p m
theorem Lo (p:Program)(m:Machine):sLe m.world (step p m):=by
 unfold step stepT
 have:=Ln p m
 split
 ·rename_i h
  rw[h]at this
  exact sLe.trans this (IF p _ _ _)
 ·rename_i h
  rw[h]at this
  exact this
theorem B8 {p:Program}{m m':Machine}(h:Steps p m m'):m.world.drawn≤m'.world.drawn:=by
 obtain⟨n,hn⟩:=h
 induction n generalizing m with
 |zero=>simp only[runN,Stepped.next.injEq]at hn;subst hn;exact Nat.le_refl _
 |succ n ih=>
  simp only[runN]at hn
  have:=Lo p m
  cases hs:step p m with
  |next m1=>
   rw[hs]at hn this
   exact Nat.le_trans this (ih hn)
  |ended o w=>rw[hs]at hn;cases hn
theorem B9 {P:Program}{f:FuncId}{args:Array Value}{w:World}{R:Ending→World→Prop}(h:Calls P f args w R):Calls P f args w fun e w'=>R e w'∧(e≠ .outgrown→w.drawn≤w'.drawn):=by
 intro cs
 obtain⟨e,w',fr,hr,hc,hf,hl⟩:=h cs
 refine⟨e,w',fr,⟨hr,fun hne=>?_⟩,hc,hf,hl⟩
 cases e with
 |returned v=>exact B8 (p:=P) hc
 |panicked c=>exact B8 (p:=P) hc
 |outgrown=>exact absurd rfl hne
end Go.Sx
end
section
namespace Go.Sx
open Go.RowKit Go.Shelf Go.Lib Go.Sort Go.Proofs
def Mr:SV→Value
 | .v x=>x
 |_=>undef
def mF (k:Tag)(x:k.T):List Value:=(cellsOf k x).map Mr
def xA (k:Tag):Prop:= ∀ (x:k.T) (s:SV),s∈cellsOf k x→∃ v,s=.v v∧v.oneCell'=true
def srt {α:Type}(cf:α→α→Int)(l:List α):List α:=l.mergeSort fun x y=>!(ltOf cf y x)
def apart {α:Type}(cf:α→α→Int)(l:List α):Prop:= ∀ x∈l,∀ y∈l,ltOf cf x y=false→ltOf cf y x=false→x=y
theorem DT {α:Type}[Inhabited α]{cf:α→α→Int}(hO:SWO (ltOf cf)){l:List α}(h:apart cf l){d':Array α}(hp:PermIn 0 l.toArray.size l.toArray d')(hs:SortedIn (ltOf cf) 0 l.toArray.size d'):d'=(srt cf l).toArray:=by
 obtain⟨hsz,_,hperm⟩:=hp
 have e1:d'.extract 0 l.toArray.size=d':=by rw[←hsz];exact Array.extract_size
 rw[e1,Array.extract_size]at hperm
 have hperm:d'.toList.Perm l:=by simpa using hperm
 have:d'.toList=srt cf l:=by
  refine List.Perm.eq_of_pairwise (le:=fun x y=>(!ltOf cf y x)=true) ?_ ?_ ?_ (hperm.trans (List.mergeSort_perm _ _).symm)
  ·intro a b ha hb h1 h2
   simp only[Bool.not_eq_true']at h1 h2
   exact h a (hperm.subset ha) b ((List.mergeSort_perm _ _).subset hb) h2 h1
  ·rw[List.pairwise_iff_getElem]
   intro i j hi hj hij
   have:=hs i j (Nat.zero_le _) hij (by simp only[List.size_toArray]at hsz ⊢;simp only[Array.length_toList]at hj;omega)
   simp only[Array.length_toList]at hi hj
   rw[getElem!_pos d' i hi,getElem!_pos d' j hj]at this
   simpa using this
  ·refine List.pairwise_mergeSort (fun a b c h1 h2=>?_) (fun a b=>?_) l
   ·simp only[Bool.not_eq_true']at h1 h2 ⊢
    exact hO.ntrans c b a h2 h1
   ·simp only[Bool.or_eq_true,Bool.not_eq_true']
    cases h1:ltOf cf b a with
    |false=>exact .inl rfl
    |true=>
     right
     cases h2:ltOf cf a b with
     |false=>rfl
     |true=>
      have h3:=hO.trans a b a h2 h1
      rw[hO.irrefl]at h3;cases h3
 rw[←this]
section
variable {P:Program}{ρ:Ren}{F:Nat→Prop}{own:Own}{w:World}{k:Tag}
theorem zd (hk:xA k){l:List k.T}{o:Nat}{cs:Array Value}(h:RowAt F own w k l o cs){i j:Nat}(hi:i<l.length)(hj:j<aa k):cs[o+i*aa k+j]? =(mF k l[i])[j]?:=by
 have e1:=List.getElem?_eq_getElem hi
 have hlen:j< (cellsOf k l[i]).length:=by rw[bj];exact hj
 have e2:=List.getElem?_eq_getElem hlen
 obtain⟨u,h1,h2⟩:=h i _ e1 j _ e2
 obtain⟨v,h3,_⟩:=hk l[i] _ (List.getElem_mem hlen)
 rw[h1]
 unfold mF
 rw[List.getElem?_map,e2]
 rw[h3]at h2 ⊢
 rw[b9 h2]
 rfl
theorem zf (hk:xA k){l:List k.T}{o:Nat}{cs:Array Value}(h:∀ i j,(hi:i<l.length)→j<aa k→cs[o+i*aa k+j]? =(mF k l[i])[j]?):RowAt F own w k l o cs:=by
 intro i x hi j s hj
 obtain⟨hl,rfl⟩:=List.getElem?_eq_some_iff.1 hi
 have hlen:=(List.getElem?_eq_some_iff.1 hj).1
 rw[bj]at hlen
 have:=h i j hl hlen
 unfold mF at this
 rw[List.getElem?_map,hj]at this
 obtain⟨v,h3,_⟩:=hk _ s (List.mem_of_getElem? hj)
 subst h3
 exact⟨v,this,.v v⟩
theorem Lp {w w':World}(hb:Go.RowKit.Below w.heap.size w w')(hd:w.drawn≤w'.drawn):∃ q os,w'=grow (w.drewN q) os:=by
 refine⟨w'.drawn - w.drawn,w'.heap.extract w.heap.size w'.heap.size,?_⟩
 obtain⟨h1,h2,h3,h4,h5⟩:=hb
 obtain⟨heap,tape,drawn,os,output⟩:=w
 obtain⟨heap',tape',drawn',os',output'⟩:=w'
 simp only at h1 h2 h3 h4 h5 hd
 subst h1;subst h2;subst h3
 unfold grow World.drewN
 simp only[World.mk.injEq,true_and,and_true]
 refine⟨?_,by omega⟩
 apply Array.ext
 ·simp;omega
 ·intro i hi1 hi2
  by_cases hi:i<heap.size
  ·rw[Array.getElem_append_left hi]
   have:=h5 i hi
   rw[Array.getElem?_eq_getElem hi1,Array.getElem?_eq_getElem hi]at this
   exact Option.some.inj this
  ·rw[Array.getElem_append_right (by omega)]
   simp only[Array.getElem_extract]
   congr 1;omega
end
end Go.Sx
end
section
namespace Go.Sx
open Go.RowKit Go.Shelf Go.Lib Go.Sort Go.Proofs
open Classical in
noncomputable def nB (k:Tag)(g:FuncId)(caps:List SV)(cf:k.T→k.T→Int):List SV→List Ob→Option HCon:=fun l h=>
 K_ k (fun l0=>if l=[.os 0,.fn g [] caps]then some (eM (apart cf l0) (.tup []) [.row k (srt cf l0)])else none) h
@[go_sem] theorem yh {k:Tag}{g:FuncId}{caps:List SV}{cf:k.T→k.T→Int}{l0:List k.T}:nB k g caps cf [.os 0,.fn g [] caps] [.row k l0]=some (eM (apart cf l0) (.tup []) [.row k (srt cf l0)]):=by
 simp[nB,K_]
section
variable {P:Program}{ρ:Ren}{k:Tag}
theorem IH {w:World}{b:Nat}{cs:Array Value}{ty:TypeId}(hb:w.heap[b]? =some (.cells cs ty (0,0)))(D:Array Value)(o:Nat):(putRow id w b o D).heap[b]? =some (.cells (putCells id o D cs) ty (0,0)):=by
 unfold putRow mapBlock
 simp only[Array.getElem?_modify,if_true,hb]
 rfl
theorem B_ {w:World}{b c:Nat}(hc:c≠b)(D:Array Value)(o:Nat):(putRow id w b o D).heap[c]? =w.heap[c]?:=by
 unfold putRow mapBlock
 simp only[Array.getElem?_modify]
 rw[if_neg (fun e=>hc e.symm)]
theorem Aw {D cs:Array Value}{o t:Nat}(ht:t<D.size)(hs:o+t<cs.size):(putCells id o D cs)[o+t]? =D[t]?:=by
 unfold putCells
 rw[Array.getElem?_mapIdx,Array.getElem?_eq_getElem hs]
 simp only[Option.map_some]
 rw[if_pos (by omega),Array.getElem?_eq_getElem ht]
 have:o+t - o=t:=by omega
 rw[this,getElem!_pos D t ht]
 rfl
theorem Ca {α:Type}[Inhabited α]{enc:α→List Value}{n:Nat}(hn:∀ x,(enc x).length=n){d:Array α}{i j:Nat}(hi:i<d.size)(hj:j<n):(flatK enc n d)[i*n+j]? =(enc d[i]!)[j]?:=by
 have hlt:i*n+j<d.size*n:=by
  have:=Nat.mul_le_mul_right n (show i+1≤d.size from hi)
  rw[Nat.succ_mul]at this;omega
 have h1:i*n+j< (flatK enc n d).size:=by rw[size_flatK];exact hlt
 rw[Array.getElem?_eq_getElem h1,←getElem!_pos (flatK enc n d) _ h1,get_flatK enc n d _ hlt]
 have hd:(i*n+j) / n=i:=by
  rw[Nat.mul_comm,Nat.mul_add_div (by omega),Nat.div_eq_of_lt hj];omega
 have hm:(i*n+j) % n=j:=by
  rw[Nat.mul_comm,Nat.mul_add_mod,Nat.mod_eq_of_lt hj]
 rw[hd,hm]
 have hj':j< (enc d[i]!).length:=by rw[hn];exact hj
 rw[List.getElem?_eq_getElem hj',getElem!_pos (enc d[i]!) j hj']
theorem sw_b {α:Type}[Inhabited α]{enc:α→List Value}{n b o m:Nat}{w:World}{cs:Array Value}{ty:TypeId}(hb:w.heap[b]? =some (.cells cs ty (0,0)))(d:Array α)(os:Array Obj):(sortWorldK enc n w b o m d os).heap[b]? =some (.cells (putCells id o (flatK enc n d) cs) ty (0,0)):=by
 have hlt:b<w.heap.size:=(Array.getElem?_eq_some_iff.1 hb).1
 unfold sortWorldK grow
 simp only
 rw[Array.getElem?_append_left (by unfold putRowK putRow mapBlock Sort.ahead;simpa using hlt)]
 exact IH (w:=Sort.ahead w m) hb _ _
theorem Ms {α:Type}[Inhabited α]{enc:α→List Value}{n b o m c:Nat}{w:World}(hc:c<w.heap.size)(hne:c≠b)(d:Array α)(os:Array Obj):(sortWorldK enc n w b o m d os).heap[c]? =w.heap[c]?:=by
 unfold sortWorldK grow
 simp only
 rw[Array.getElem?_append_left (by unfold putRowK putRow mapBlock Sort.ahead;simpa using hc)]
 exact B_ (w:=Sort.ahead w m) hne _ _
theorem Ax {α:Type}[Inhabited α]{enc:α→List Value}{n b o m:Nat}{w:World}(d:Array α)(os:Array Obj):w.heap.size≤(sortWorldK enc n w b o m d os).heap.size:=by
 unfold sortWorldK grow putRowK putRow mapBlock Sort.ahead
 simp
theorem Cb (L:SlLaysF0.n6 P ρ)(aE:∀ w,(isAgg (ρ.t 24)).run P w=.ok true w)(zE:∀ w,(Go.sizeOf (ρ.t 24)).run P w=.ok (aa k) w)(hk:xA k)(h0:0<aa k){g:FuncId}{caps:List SV}{C:List SV→Option Con}(hC:FnOk P g C){cf:k.T→k.T→Int}
  (hcf:∀ x y,C (.agg (cellsOf k x):: .agg (cellsOf k y)::caps)=some (.det True (.v (.int .i64 (cf x y))))) (hO:SWO (ltOf cf)) (hpf:∀ s∈caps,PF s) (hcf0:∃ x y,C (.agg (cellsOf k x):: .agg (cellsOf k y)::caps)=some (.det True (.v (.int .i64 (cf x y))))):FnOkO P (ρ.f 6) (nB k g caps cf):=by
 haveI:Inhabited k.T:=⟨dE k⟩
 refine⟨fun l h c hc args w=>L.f6.enters rfl args w,fun l h c hc hp F own w vs hHp hvs=>?_⟩
 unfold nB at hc
 obtain⟨l0,hh,hK⟩:=Ib hc
 clear hc
 subst hh
 by_cases hl:l=[.os 0,.fn g [] caps]
 rotate_left
 ·rw[if_neg hl]at hK;cases hK
 rw[if_pos hl]at hK
 subst hl
 cases hK
 have hp:apart cf l0:=hp
 obtain⟨hsz,hrel⟩:=hvs
 have r0:=hrel 0 _ rfl
 have r1:=hrel 1 _ rfl
 have hvs2:vs= #[vs.getD 0 undef,vs.getD 1 undef]:=by
  apply Array.ext
  ·simpa using hsz
  ·intro i h1 h2
   simp only[List.length_cons,List.length_nil]at hsz
   match i,h1,h2 with
   |0,h1,_=>simp[Array.getD,h1]
   |1,h1,_=>simp[Array.getD,h1]
   |i+2,h1,_=>omega
 generalize vs.getD 0 undef=v0 at r0 hvs2
 generalize vs.getD 1 undef=v1 at r1 hvs2
 subst hvs2
 obtain⟨hd,o0,rfl,_⟩:=ft r0
 obtain⟨hd',o0',hrow⟩:=hHp.at (id:=0) (o:=.row k l0) rfl rfl
 rw[o0]at o0'
 cases o0'
 have hrow:RowRel F own w k l0 hd.v hd.bs:=hrow
 cases r1 with
 | @fn _ _ _ us cs s1 s2 c1 c2=>
 have hus:us= #[]:=Array.eq_empty_of_size_eq_zero (by simpa using s1)
 subst hus
 rcases hrow with⟨a,e1,rfl,e2⟩ | ⟨b,o,cap,cells,ty,e1,e2,e3,e4,e5,e6,e7⟩
 ·rw[e1]
  refine(AnyF.slices_SortFunc_none L a 0 _ w).mono fun e w' he=>?_
  obtain⟨rfl,rfl⟩:=he
  refine⟨(),own,trivial,⟨_,rfl,.tup rfl fun j s hj=>by simp at hj⟩,?_,Fr.refl _,Nat.le_refl _⟩
  have:srt cf ([]:List k.T)=[]:=by simp[srt]
  rw[this]
  exact hHp
 ·have hbown:b∈hd.bs:=by rw[e2];simp
  have hbw:b<w.heap.size:=hHp.lt 0 hd b o0 hbown
  have hkl:∀ x:k.T,(mF k x).length=aa k:=fun x=>by unfold mF;rw[List.length_map,bj]
  have hone:∀ x:k.T,∀ v∈mF k x,v.oneCell'=true:=fun x v hv=>by
   unfold mF at hv
   rw[List.mem_map]at hv
   obtain⟨s,hs,rfl⟩:=hv
   obtain⟨v,rfl,h1⟩:=hk x s hs
   exact h1
  have eg:∀ args w,(callFunc g args).run P w=.ok (.enter g args) w:=fun args w=>by
   obtain⟨x,y,hxy⟩:=hcf0
   exact hC.enter _ _ hxy args w
  have hown:∀ id h2,own id=some h2→id=0:=fun id h2 e=>by have:=hHp.dom id h2 e;simpa using this
  have hH:HoldsK (mF k) (aa k) w b o l0.toArray:=by
   intro t ht
   rw[size_flatK]at ht
   simp only[List.size_toArray]at ht
   have hi:t / aa k<l0.length:=Nat.div_lt_of_lt_mul (by rw[Nat.mul_comm];exact ht)
   have hj:=Nat.mod_lt t h0
   have ht':t=t / aa k*aa k+t % aa k:=(Nat.div_add_mod' t _).symm
   have q1:=zd hk e7 hi hj
   have q2:=Ca (enc:=mF k) hkl (d:=l0.toArray) (i:=t / aa k) (j:=t % aa k) (by simpa using hi) hj
   rw[←ht']at q2
   rw[Nat.add_assoc,←ht']at q1
   have hl0:l0.toArray[t / aa k]! =l0[t / aa k]:=by rw[getElem!_pos l0.toArray _ (by simpa using hi)];rfl
   rw[hl0]at q2
   have hlt:t< (flatK (mF k) (aa k) l0.toArray).size:=by rw[size_flatK];simpa using ht
   constructor
   ·unfold World.cell?
    rw[e3]
    dsimp only
    rw[q1,←q2,Array.getElem?_eq_getElem hlt,getElem!_pos _ t hlt]
    rfl
   ·unfold World.frozen?
    rw[e3]
    simp
  have hcmp:CmpLays P g cs (mF k) (aa k) cf b o l0.toArray.size w:=by
   intro m os dk hdk x y
   generalize hW:sortWorldK (mF k) (aa k) w b o m dk os=W
   have hcar:Carries F own w F own W:=⟨fun _ h2 e=>⟨h2,e,.refl _⟩,fun c hc hn=>⟨hn,by
    rw[←hW]
    exact Ms hc (fun e=>hn (.inr ⟨0,hd,o0,e▸hbown⟩)) _ _⟩⟩
   have henc:∀ z:k.T,Rel (fun _=>False) cw W (.agg (cellsOf k z)) (.agg (mF k z).toArray):=fun z=>by
    refine .agg (by simp[mF]) fun j s hj=>?_
    obtain⟨v,rfl,_⟩:=hk z s (List.mem_of_getElem? hj)
    have:(mF k z).toArray.getD j undef=v:=by
     unfold mF
     rw[Array.getD_eq_getD_getElem?,List.getElem?_toArray,List.getElem?_map,hj]
     rfl
    rw[this];exact .v v
   have hcall:=B9 (hC.calls _ _ (hcf x y) trivial (fun _=>False) W (#[.agg (mF k x).toArray,.agg (mF k y).toArray]++cs) (fun _ h=>h.elim) ⟨by simp[c1];omega,fun j s hj=>by
    match j,hj with
    |0,hj=>
     cases hj
     rw[Array.getD_eq_getD_getElem?,Array.getElem?_append_left (by simp)]
     exact henc x
    |1,hj=>
     cases hj
     rw[Array.getD_eq_getD_getElem?,Array.getElem?_append_left (by simp)]
     exact henc y
    |j+2,hj=>
     have hj:caps[j]? =some s:=hj
     have:=((c2 j s hj).carry hcar).over (hpf s (List.mem_of_getElem? hj)) (F':=fun _=>False) (own':=cw) fun _ _ h=>by
      rcases h with h| ⟨_,_,h,_⟩
      ·exact h
      ·cases h
     have e:(#[Value.agg (mF k x).toArray,.agg (mF k y).toArray]++cs).getD (j+2) undef=cs.getD j undef:=by
      rw[Array.getD_eq_getD_getElem?,Array.getD_eq_getD_getElem?,Array.getElem?_append_right (by simp)]
      simp
     rw[e];exact this⟩)
   refine hcall.mono fun e w' hq=>?_
   obtain⟨he,hdr⟩:=hq
   rcases he with⟨s,u,own',hs,rfl,hh,hb⟩ | ⟨z,hz,_⟩
   ·simp only[cX]at hs
    subst hs
    have:=hh.val
    simp only[qf]at this
    rw[b9 this]
    exact⟨rfl,Lp hb (hdr (by simp))⟩
   ·exact hz.elim
  have hall:=AnyQ.slices_SortFunc L (aa k) aE zE (mF k) hkl hone cf hO g cs b o cap l0.toArray w eg hcmp hH hbw (by unfold bv at e6;simp only[List.size_toArray];omega)
  rw[e1]
  refine hall.mono fun e w' he=>?_
  obtain⟨rfl,d',n,os,hpm,hst,rfl⟩:=he
  have hd':=DT hO hp hpm hst
  subst hd'
  have hlS:(srt cf l0).length=l0.length:=List.length_mergeSort _
  generalize srt cf l0=lS at hlS
  have hsb:=sw_b (enc:=mF k) (n:=aa k) (o:=o) (m:=n) e3 lS.toArray os
  refine⟨(),own,trivial,⟨_,rfl,.tup rfl fun j s hj=>by simp at hj⟩,?_,?_,Nat.le_refl _⟩
  ·refine⟨hHp.dom,fun c hc=>Nat.lt_of_lt_of_le (hHp.foreign c hc) (Ax _ _),hHp.apart,hHp.inj,fun i h2 c e hc=>Nat.lt_of_lt_of_le (hHp.lt i h2 c e hc) (Ax _ _),fun i hi=>?_⟩
   match i,hi with
   |0,_=>
    refine⟨hd,o0,?_⟩
    show RowRel F own _ k lS hd.v hd.bs
    refine .inr ⟨b,o,cap,_,ty,by rw[hlS];exact e1,e2,hsb,?_,by omega,by omega,zf hk fun i j hi hj=>?_⟩
    ·unfold putCells;simpa using e4
    ·have hlt:i*aa k+j< (flatK (mF k) (aa k) lS.toArray).size:=by
      rw[size_flatK]
      have:=Nat.mul_le_mul_right (aa k) (show i+1≤lS.length from hi)
      rw[Nat.succ_mul]at this
      simp only[List.size_toArray];omega
     have hle:o+(i*aa k+j) <cells.size:=by
      rw[size_flatK]at hlt
      simp only[List.size_toArray]at hlt
      have:=Nat.mul_le_mul_right (aa k) (show lS.length≤cap by omega)
      omega
     rw[Nat.add_assoc,Aw hlt hle,Ca hkl (by simpa using hi) hj]
     have:lS.toArray[i]! =lS[i]:=by rw[getElem!_pos lS.toArray _ (by simpa using hi)];rfl
     rw[this]
   |i+1,hi=>rw[j_ (by simp)]at hi;cases hi
  ·refine⟨fun _ h2 e=>⟨h2,e,.refl _⟩,(Fr.refl { w:=w,own:=own}).base,rfl,rfl,rfl,Ax _ _,fun c hc=>?_⟩
   exact Ms hc.1 (fun e=>hc.2 ⟨0,hd,o0,e▸hbown⟩) _ _
end
end Go.Sx
end
section
namespace Go.Sx
open Go.RowKit Go.Shelf Go.Lib Go.Sort Go.Proofs
def qx (l:List Int):List Int:=l.mergeSort fun x y=>decide (x≤y)
noncomputable def Ay:List SV→List Ob→Option HCon:=gF (fun x_:List Int=>[.os 0]) (fun x_=>[.row .int x_]) (fun x_=>eM True (.tup []) [.row .int (qx x_)])
@[go_sem] theorem QF (l_:List Int):Ay ([.os 0]) ([.row .int l_])=some (eM True (.tup []) [.row .int (qx l_)]):=eB (A:=fun x_:List Int=>[.os 0]) (H:=fun x_=>[.row .int x_]) (K:=fun x_=>eM True (.tup []) [.row .int (qx x_)]) (x:=l_)
section
variable {P:Program}{ρ:Ren}
theorem SD {enc:Int→Value}{w:World}{b:Nat}{cs:Array Value}{ty:TypeId}(hb:w.heap[b]? =some (.cells cs ty (0,0)))(D:Array Int)(o:Nat):(putRow enc w b o D).heap[b]? =some (.cells (putCells enc o D cs) ty (0,0)):=by
 unfold putRow mapBlock
 simp only[Array.getElem?_modify,if_true,hb]
 rfl
theorem Ov {enc:Int→Value}{w:World}{b c:Nat}(hc:c≠b)(D:Array Int)(o:Nat):(putRow enc w b o D).heap[c]? =w.heap[c]?:=by
 unfold putRow mapBlock
 simp only[Array.getElem?_modify]
 rw[if_neg (fun e=>hc e.symm)]
theorem II {enc:Int→Value}{D:Array Int}{cs:Array Value}{o t:Nat}(ht:t<D.size)(hs:o+t<cs.size):(putCells enc o D cs)[o+t]? =some (enc D[t]):=by
 unfold putCells
 rw[Array.getElem?_mapIdx,Array.getElem?_eq_getElem hs]
 simp only[Option.map_some]
 rw[if_pos (by omega)]
 have:o+t - o=t:=by omega
 rw[this,getElem!_pos D t ht]
theorem gp_b {enc:Int→Value}{b o m:Nat}{w:World}{cs:Array Value}{ty:TypeId}(hb:w.heap[b]? =some (.cells cs ty (0,0)))(d:Array Int)(os:Array Obj):(grow (putRow enc (Sort.ahead w m) b o d) os).heap[b]? =some (.cells (putCells enc o d cs) ty (0,0)):=by
 have hlt:b<w.heap.size:=(Array.getElem?_eq_some_iff.1 hb).1
 unfold grow
 simp only
 rw[Array.getElem?_append_left (by unfold putRow mapBlock Sort.ahead;simpa using hlt)]
 exact SD (w:=Sort.ahead w m) hb _ _
theorem SE {enc:Int→Value}{b o m c:Nat}{w:World}(hc:c<w.heap.size)(hne:c≠b)(d:Array Int)(os:Array Obj):(grow (putRow enc (Sort.ahead w m) b o d) os).heap[c]? =w.heap[c]?:=by
 unfold grow
 simp only
 rw[Array.getElem?_append_left (by unfold putRow mapBlock Sort.ahead;simpa using hc)]
 exact Ov (w:=Sort.ahead w m) hne _ _
theorem Az {enc:Int→Value}{b o m:Nat}{w:World}(d:Array Int)(os:Array Obj):w.heap.size≤(grow (putRow enc (Sort.ahead w m) b o d) os).heap.size:=by
 unfold grow putRow mapBlock Sort.ahead
 simp
theorem zg:xA .int:=by
 intro x s hs
 have:s=.v (.int .i64 x):=by simpa[cellsOf]using hs
 exact⟨_,this,rfl⟩
theorem DU (L:SlLaysM.n5 P ρ):FnOkO P (ρ.f 5) Ay:=by
 refine⟨fun l h c hc args w=>L.f5.enters rfl args w,fun l h c hc hp F own w vs hHp hvs=>?_⟩
 obtain⟨l0,rfl,rfl,rfl⟩:=dy hc
 clear hc
 obtain⟨hsz,hrel⟩:=hvs
 have r0:=hrel 0 _ rfl
 have hvs2:vs= #[vs.getD 0 undef]:=by
  apply Array.ext
  ·simpa using hsz
  ·intro i h1 h2
   simp only[List.length_cons,List.length_nil]at hsz
   match i,h1,h2 with
   |0,h1,_=>simp[Array.getD,h1]
   |i+1,h1,_=>omega
 generalize vs.getD 0 undef=v0 at r0 hvs2
 subst hvs2
 obtain⟨hd,o0,rfl,_⟩:=ft r0
 obtain⟨hd',o0',hrow⟩:=hHp.at (id:=0) (o:=.row .int l0) rfl rfl
 rw[o0]at o0'
 cases o0'
 have hrow:RowRel F own w .int l0 hd.v hd.bs:=hrow
 rcases hrow with⟨a,e1,rfl,e2⟩ | ⟨b,o,cap,cells,ty,e1,e2,e3,e4,e5,e6,e7⟩
 ·rw[e1]
  refine(AnyM.slices_Sort_int_none L a 0 w).mono fun e w' he=>?_
  obtain⟨rfl,rfl⟩:=he
  refine⟨(),own,trivial,⟨_,rfl,.tup rfl fun j s hj=>by simp at hj⟩,?_,Fr.refl _,Nat.le_refl _⟩
  have:qx ([]:List Int)=[]:=by simp[qx]
  show Hp F own w' [.row .int (qx [])]
  rw[this]
  exact hHp
 ·have hbown:b∈hd.bs:=by rw[e2];simp
  have hbw:b<w.heap.size:=hHp.lt 0 hd b o0 hbown
  have hH:Holds (Value.int .i64) w b o (l0:List Int).toArray:=by
   intro t ht
   simp only[List.size_toArray]at ht
   have q1:=zd zg e7 (i:=t) (j:=0) ht (by decide)
   have e0:aa .int=1:=rfl
   rw[e0,Nat.mul_one,Nat.add_zero]at q1
   constructor
   ·unfold World.cell?
    rw[e3]
    dsimp only
    rw[q1,getElem!_pos _ t (by simpa using ht)]
    rfl
   ·unfold World.frozen?
    rw[e3]
    simp
  have hlen:l0.length<4611686018427387904:=by unfold bv at e6;omega
  have hall:=AnyM.slices_Sort_int L b o cap l0 w hH hbw hlen
  rw[e1]
  refine hall.mono fun e w' he=>?_
  obtain⟨rfl,n,os,rfl⟩:=he
  have hlS:(qx l0).length=l0.length:=List.length_mergeSort _
  show ∃ r own',_∧Db F w own 1 (.returned (.tuple #[])) own' (grow (putRow (Value.int .i64) (Sort.ahead w n) b o (qx l0).toArray) os) (.ret (.tup []) [.row .int (qx l0)])
  generalize qx l0=lS at hlS
  have hsb:=gp_b (enc:=Value.int .i64) (o:=o) (m:=n) e3 lS.toArray os
  refine⟨(),own,trivial,⟨_,rfl,.tup rfl fun j s hj=>by simp at hj⟩,?_,?_,Nat.le_refl _⟩
  ·refine⟨hHp.dom,fun c hc=>Nat.lt_of_lt_of_le (hHp.foreign c hc) (Az _ _),hHp.apart,hHp.inj,fun i h2 c e hc=>Nat.lt_of_lt_of_le (hHp.lt i h2 c e hc) (Az _ _),fun i hi=>?_⟩
   match i,hi with
   |0,_=>
    refine⟨hd,o0,?_⟩
    show RowRel F own _ .int lS hd.v hd.bs
    have hc1:aa .int=1:=rfl
    refine .inr ⟨b,o,cap,_,ty,by rw[hlS];exact e1,e2,hsb,?_,by omega,by omega,zf zg fun i j hi hj=>?_⟩
    ·unfold putCells;simpa using e4
    ·rw[hc1]at hj ⊢
     have hj0:j=0:=by omega
     subst hj0
     rw[Nat.mul_one,Nat.add_zero,II (by simpa using hi) (by have h9:aa .int=1:=rfl;simp only[h9,Nat.mul_one]at e4 e5;omega)]
     simp[mF,cellsOf,Mr]
   |i+1,hi=>rw[j_ (by simp)]at hi;cases hi
  ·refine⟨fun _ h2 e=>⟨h2,e,.refl _⟩,(Fr.refl { w:=w,own:=own}).base,rfl,rfl,rfl,Az _ _,fun c hc=>?_⟩
   exact SE hc.1 (fun e=>hc.2 ⟨0,hd,o0,e▸hbown⟩) _ _
end
end Go.Sx
end
section
namespace Go.Sx
open Go.RowKit
section
variable {P:Program}{ts:Tis}{G:Cons}{N:Nat}
theorem DV (hm:P.follows .mixedOrders=true)(hts:ts.ok P)(hG:ConsOk P G){id:Nat}{g:Operand}{ps:Array Tmp}{assign body:Code}{C:St→Option LCon}
  (hpn:ps.toList.Nodup) (hpN:∀ p∈ps.toList,p<N) (hca:ct N assign=true) (hcb:ct N body=true)
  (h:∀ st0 lc,C st0=some lc→lc.pre→∃ st,NilS st0 st∧∃ (f:FuncId) (caps:List SV) (τ ρ σ:Type) (l:List τ) (mk:τ→List SV) (step:τ→σ→ρ⊕σ) (p:τ→σ→Prop) (pre:Prop) (s0:σ) (exE:ρ→Ex) (outE:ρ→St) (outN:σ→St) (T:List (Nat×SV)) (H:σ→List Ob) (Hy:ρ→List Ob) (js:List Nat),
   raw st.t g=.fn f [] caps∧lc=LC pre (fN step l s0) exE outE outN∧okL step p l s0∧st.h.length≤(H s0).length∧Sub js st.h.length ⟨st.t,s6 (kV st caps) st.h⟩ ⟨T,H s0⟩∧
   DB P f (fun y=>y::caps.map (ren (DD (kV st caps)) 3)) (BE (kV st caps) st.h) (l.map mk)∧
   (∀ x s,p x s→(mk x).length=ps.size∧∃ L,(∀ l,al P (some l) N L assign)∧(∀ l,al P (some l) N L body)∧exec ts G L assign ⟨psT ps.toList (mk x)++T,H s⟩ (fun e st1=>e=.normal∧exec ts G L body st1 (rgQ step exE T H Hy st.h.length id x s)))∧
   (∀ s,fQ (outN s) st.h.length ⟨T,H s⟩)∧∀ y,fQ (outE y) st.h.length ⟨T,Hy y⟩):iX P none N id (.rangeFunc g ps assign body) C:=by
 intro nd F w0 st0 lc hC hpre own a w hr
 obtain⟨st,hN,hrest⟩:=h st0 lc hC hpre
 obtain⟨own',hr'⟩:=hN.rel hr
 refine F7 hm hts hG hpn hpN hca hcb (C:=fun s=>@ite _ (s=st) (Classical.propDecidable _) (some lc) none) (fun s l e _=>?_) nd F w0 st lc (if_pos rfl) hpre own' a w hr'
 split at e
 ·rename_i e1
  subst e1
  cases e
  exact hrest
 ·cases e
end
end Go.Sx
end
section
namespace Go.Proofs
open Go.Shelf
def Tryz.sortI_ren:Go.Shelf.Ren:=⟨fun|5=>74|8=>81|7=>101|19=>112|20=>113|10=>125|11=>126|12=>127|13=>128|14=>129|15=>130|16=>131|17=>132|18=>133|30=>145|31=>137|32=>138|33=>146|34=>147|35=>62|40=>152|n=>n,fun|23=>47|25=>3|3=>3|32=>116|22=>47|0=>0|44=>162|46=>164|4=>4|36=>156|35=>155|41=>78|5=>5|9=>9|53=>184|57=>187|63=>195|64=>192|n=>n,fun|n=>n⟩
theorem Tryz.sortI:Go.Proofs.SlLaysM.n5 Tryz.prog Tryz.sortI_ren:= {
 mixed:=by kernel_rfl
 f5:=⟨Tryz.f74.name,by decide,Tryz.func74.trans (congrArg some (by kernel_rfl))⟩
 f7:=⟨Tryz.f101.name,by decide,Tryz.func101.trans (congrArg some (by kernel_rfl))⟩
 f8:=Tryz.func81.trans (congrArg some (by kernel_rfl))
 f10:=⟨Tryz.f125.name,by decide,Tryz.func125.trans (congrArg some (by kernel_rfl))⟩
 f11:=⟨Tryz.f126.name,by decide,Tryz.func126.trans (congrArg some (by kernel_rfl))⟩
 f12:=⟨Tryz.f127.name,by decide,Tryz.func127.trans (congrArg some (by kernel_rfl))⟩
 f13:=⟨Tryz.f128.name,by decide,Tryz.func128.trans (congrArg some (by kernel_rfl))⟩
 f14:=⟨Tryz.f129.name,by decide,Tryz.func129.trans (congrArg some (by kernel_rfl))⟩
 f15:=⟨Tryz.f130.name,by decide,Tryz.func130.trans (congrArg some (by kernel_rfl))⟩
 f16:=⟨Tryz.f131.name,by decide,Tryz.func131.trans (congrArg some (by kernel_rfl))⟩
 f17:=⟨Tryz.f132.name,by decide,Tryz.func132.trans (congrArg some (by kernel_rfl))⟩
 f18:=⟨Tryz.f133.name,by decide,Tryz.func133.trans (congrArg some (by kernel_rfl))⟩
 f19:=Tryz.func112.trans (congrArg some (by kernel_rfl))
 f20:=Tryz.func113.trans (congrArg some (by kernel_rfl))
 f30:=⟨Tryz.f145.name,by decide,Tryz.func145.trans (congrArg some (by kernel_rfl))⟩
 f31:=Tryz.func137.trans (congrArg some (by kernel_rfl))
 f32:=Tryz.func138.trans (congrArg some (by kernel_rfl))
 f33:=⟨Tryz.f146.name,by decide,Tryz.func146.trans (congrArg some (by kernel_rfl))⟩
 f34:=⟨Tryz.f147.name,by decide,Tryz.func147.trans (congrArg some (by kernel_rfl))⟩
 f35:=⟨Tryz.f62.name,by decide,Tryz.func62.trans (congrArg some (by kernel_rfl))⟩
 f40:=⟨Tryz.f152.name,by decide,Tryz.func152.trans (congrArg some (by kernel_rfl))⟩
 t0:=Tryz.underlying0
 a0:=Tryz.isAgg0
 z0:=Tryz.sizeOf0
 v0:=Tryz.zeroValue0
 t3:=Tryz.underlying3
 a3:=Tryz.isAgg3
 z3:=Tryz.sizeOf3
 v3:=Tryz.zeroValue3
 t4:=Tryz.underlying4
 a4:=Tryz.isAgg4
 z4:=Tryz.sizeOf4
 v4:=Tryz.zeroValue4
 t5:=Tryz.underlying5
 a5:=Tryz.isAgg5
 z5:=Tryz.sizeOf5
 v5:=Tryz.zeroValue5
 t9:=Tryz.underlying9
 a9:=Tryz.isAgg9
 z9:=Tryz.sizeOf9
 v9:=Tryz.zeroValue9
 t22:=Tryz.underlying47
 a22:=Tryz.isAgg47
 z22:=Tryz.sizeOf47
 v22:=Tryz.zeroValue47
 t23:=Tryz.underlying47
 a23:=Tryz.isAgg47
 z23:=Tryz.sizeOf47
 v23:=Tryz.zeroValue47
 t25:=Tryz.underlying3
 a25:=Tryz.isAgg3
 z25:=Tryz.sizeOf3
 v25:=Tryz.zeroValue3
 t32:=Tryz.underlying116
 a32:=Tryz.isAgg116
 z32:=Tryz.sizeOf116
 v32:=Tryz.zeroValue116
 t35:=Tryz.underlying155
 a35:=Tryz.isAgg155
 z35:=Tryz.sizeOf155
 v35:=Tryz.zeroValue155
 t36:=Tryz.underlying156
 a36:=Tryz.isAgg156
 z36:=Tryz.sizeOf156
 v36:=Tryz.zeroValue156
 t41:=Tryz.underlying78
 a41:=Tryz.isAgg78
 z41:=Tryz.sizeOf78
 v41:=Tryz.zeroValue78
 t44:=Tryz.underlying162
 a44:=Tryz.isAgg162
 z44:=Tryz.sizeOf162
 v44:=Tryz.zeroValue162
 t46:=Tryz.underlying164
 a46:=Tryz.isAgg164
 z46:=Tryz.sizeOf164
 v46:=Tryz.zeroValue164
 t53:=Tryz.underlying184
 a53:=Tryz.isAgg184
 z53:=Tryz.sizeOf184
 v53:=Tryz.zeroValue184
 t57:=Tryz.underlying187
 a57:=Tryz.isAgg187
 z57:=Tryz.sizeOf187
 v57:=Tryz.zeroValue187
 t63:=Tryz.underlying195
 a63:=Tryz.isAgg195
 z63:=Tryz.sizeOf195
 v63:=Tryz.zeroValue195
 t64:=Tryz.underlying192
 a64:=Tryz.isAgg192
 z64:=Tryz.sizeOf192
 v64:=Tryz.zeroValue192}
end Go.Proofs
end
section
namespace Go.Sx
open Go.Proofs
set_option maxRecDepth 100000
set_option linter.unusedSimpArgs false
theorem mY {p:Prop}(h:p:=by(first|done|(repeat' (first|with_reducible refine And.intro ?_ ?_|((with_reducible show _≠_);first|assumption|omega|(simp_all [aX,bu];done) |grind) |with_reducible intro _)) <;>(first|done|with_reducible exact Empty.elim ‹Empty› |with_reducible assumption|rfl|omega|assumption|decide|exact fk [0,1,2,3,4,5,6,11] |exact fk [0,1,2,3,4,5,6,7] |exact czl|(simp only[*,cond_true,cond_false,Bool.not_true,Bool.not_false,go_sem,Nat.reduceBEq,Nat.reduceLeDiff,Nat.reduceLT,decide_true,Nat.reduceAdd,Nat.reduceSub,Nat.reduceMul,Int.reduceLE,Int.reduceLT,Int.reduceToNat,Int.reduceNeg,reduceCtorEq];(repeat' (first|with_reducible refine And.intro ?_ ?_|((with_reducible show _≠_);first|assumption|omega|(simp_all [aX,bu];done) |grind) |with_reducible intro _)) <;>(first|done|assumption|rfl|omega|decide|exact fk [0,1,2,3,4,5,6,11] |exact fk [0,1,2,3,4,5,6,7] |(simp_all [aX,bu];done))) |(simp_all [okI,aX,bu];done) |(simp_all [aX,bu];(first|done|exact fk2 [0,1,2,3,4,5,6,11] |exact fk2 [0,1,2,3,4,5,6,7])) |exact fk2 [0,1,2,3,4,5,6,11] |exact fk2 [0,1,2,3,4,5,6,7]))):p:=h
theorem Lq:FnOkO Tryz.prog 74 Ay:=DU Tryz.sortI
@[go_sem] def bY (d:District)(k_0:Nat)(s_0:List (RegisterTitle×Int)):Empty⊕(List (RegisterTitle×Int)):=(bif((d.rights.getD k_0 (default:Right)).kind==1)then .inr (fL .registerTitle .int s_0 ({ right:=(k_0:Int),farm:=(d.rights.getD k_0 (default:Right)).farm}:RegisterTitle) ((d.rights.getD k_0 (default:Right)).litres))else .inr s_0)
@[go_sem] def bN (ds:List Deed)(z_1:Deed)(s_1:List Int×List (RegisterTitle×Int)):Empty⊕(List Int×List (RegisterTitle×Int)):=(bif((dz .registerTitle .int s_1.2 ({ right:=z_1.right,farm:=z_1.since}:RegisterTitle)) ==0)then .inr ((s_1.1++([z_1.no])),s_1.2)else(bif(z_1.kind==1)then .inr (s_1.1,(db z_1 (dz .registerTitle .int s_1.2 ({ right:=z_1.right,farm:=z_1.since}:RegisterTitle)) (lP .registerTitle .int s_1.2 ({ right:=z_1.right,farm:=z_1.since}:RegisterTitle))))else(bif(z_1.kind==2)then .inr (s_1.1,(cp z_1 (dz .registerTitle .int s_1.2 ({ right:=z_1.right,farm:=z_1.since}:RegisterTitle)) (lP .registerTitle .int s_1.2 ({ right:=z_1.right,farm:=z_1.since}:RegisterTitle))))else(bif(z_1.kind==3)then .inr (s_1.1,(lP .registerTitle .int s_1.2 ({ right:=z_1.right,farm:=z_1.since}:RegisterTitle)))else .inr default))))
def dc (ds:List Deed)(z_1:Deed)(s_1:List Int×List (RegisterTitle×Int)):Prop:=((((dz .registerTitle .int s_1.2 ({ right:=z_1.right,farm:=z_1.since}:RegisterTitle)) ==0)=true→((s_1.1++([z_1.no])).length*8≤gJ))∧(((dz .registerTitle .int s_1.2 ({ right:=z_1.right,farm:=z_1.since}:RegisterTitle)) ==0)=false→((z_1.kind==1)=false→(((z_1.kind==2)=true→(dD z_1 (dz .registerTitle .int s_1.2 ({ right:=z_1.right,farm:=z_1.since}:RegisterTitle)) (lP .registerTitle .int s_1.2 ({ right:=z_1.right,farm:=z_1.since}:RegisterTitle))))∧((z_1.kind==2)=false→((z_1.kind==3)=false→False))))))
def cO (d:District)(ds:List Deed):List (RegisterTitle×Int)×List Int:=(match ak (bY d) d.rights.length 0 ([])with| .inl x=>x.elim| .inr s_0=>(match fN (bN ds) (aC ds) ([],s_0)with| .inl x=>x.elim| .inr s_1=>(s_1.2,(qx s_1.1))))
def fE (d:District)(ds:List Deed):Prop:=(d.rights.length≤bv→(∀ s_0,ak (bY d) d.rights.length 0 ([])=.inr s_0→((cb ds ((aC ds).map tt))∧okL (bN ds) (dc ds) (aC ds) ([],s_0))))
@[go_sem] noncomputable def kD:List SV→Option Con:=(pD .district fun d=>(pFn 103 (pXR .deed fun ds=>(pE ((pE (.det (fE d ds) (.tup [.nm .registerTitle .int ((cO d ds).1),.nw .int ((cO d ds).2)]))))))))
theorem nC:FnOk Tryz.prog 48 kD:=by
 have hG:ConsOk Tryz.prog (mkG [(73,oL)] [(74,Ay),(98,iy),(99,g8),(100,g9)]):=ay (cgc tu cg0) (cgc Lq (cgc pK (cgc pf (cgc pg cg0))))
 refine n_ [(.cell 5 47,.int)] mixed am hG (fn:=Tryz.f48) (c:=ae Tryz.f48) (by kernel_rfl) (by kernel_rfl) (by kernel_rfl) (by kernel_rfl) (bb fun d=>(ta (K9 fun ds=>(aI ((aI (fun hp=>?_)))))))
 dsimp only[aG]at hp
 unfold fE at hp
 refine⟨Nat.le_of_ble_eq_true rfl,(fun id st=>bif Nat.beq id 0 then some (LCR (ρ:=Empty) (σ:=(List (RegisterTitle×Int))) 4 [] [0,1,2,3] (fun k_0 s_0=>⟨[(1,.fn 103 [] [.ep [.rs .deed ds] 0]),(4,.ptr 1 0),(5,.ptr 2 0),(14,.rs .right d.rights),(15,.v (.int .i64 (d.rights.length:Int))),(16,.v (.int .i64 (k_0:Int)))],[.dead,.cells [.os 3],.cells [.v (.slice none 0 0)],.mp .registerTitle .int s_0 none]⟩) (bY d) pT d.rights.length ([]) (d.rights.length≤bv) ((·.elim)) ((·.elim)) st)else bif Nat.beq id 2 then some (LC (ρ:=Empty) (σ:=List Int×List (RegisterTitle×Int)) (lk 4 st.t=.ptr 1 0∧lk 5 st.t=.ptr 2 0∧lk 8 st.t=.ptr 5 0∧lk 33 st.t=.fn 103 [] [.ep [.rs .deed ds] 0]∧st.h=[.dead,.cells [.os 3],.cells [.v (.slice none 0 0)],.mp .registerTitle .int (aX (ak (bY d) d.rights.length 0 ([]))) none,.mp .int .fnc dV none,.cells [.os 4]]∧cb ds ((aC ds).map tt)∧okL (bN ds) (dc ds) (aC ds) ([],(aX (ak (bY d) d.rights.length 0 ([]))))) (fN (bN ds) (aC ds) ([],(aX (ak (bY d) d.rights.length 0 ([]))))) (fun x=>x.elim) (fun x=>x.elim) (fun s_1=>⟨[(4,.ptr 1 0),(5,.ptr 2 0),(8,.ptr 5 0)],[.dead,.cells [.os 3],.cells [.os 7],.mp .registerTitle .int s_1.2 none,.mp .int .fnc dV none,.cells [.os 4],.dead,.row .int s_1.1]⟩))else none),?_,?_⟩
 ·unfold ae Tryz.f48
  simp only[al,true_and,and_true]
  refine⟨?_,?_⟩
  ·refine eh mixed am hG (by kernel_rfl) (fun _=>rfl) (d.rights.length:Int) rfl gM (fun hb0 k_0 s_0 hlt0 _ hw hc=>⟨L0,ah _,?_⟩) (fun hb0 s_0 hc=>?_)
   ·exact BR
   ·exact BS
  ·refine DV mixed am hG (by decide) (by decide) (by kernel_rfl) (by kernel_rfl) fun st lc hC hp=>?_
   simp only[go_sem,Nat.reduceBEq,Option.some.injEq]at hC
   subst hC
   obtain⟨t,h⟩:=st
   dsimp only[LC]at hp
   obtain⟨e1_0,e1_1,e1_2,e1_3,rfl,hb1,hok1⟩:=hp
   refine⟨⟨t,[.dead,.cells [.os 3],.cells [.os 6],.mp .registerTitle .int (aX (ak (bY d) d.rights.length 0 ([]))) none,.mp .int .fnc dV none,.cells [.os 4],.row .int ([])]⟩,NilS.cell (h:=[.dead,.cells [.os 3],.cells [.v (.slice none 0 0)],.mp .registerTitle .int (aX (ak (bY d) d.rights.length 0 ([]))) none,.mp .int .fnc dV none,.cells [.os 4]]) (i:=2) (j:=0) (.row .int ([])) (NilS.refl _) rfl rfl (.inl ⟨_,rfl⟩),103,[.ep [.rs .deed ds] 0],Deed,_,_,(aC ds),tt,(bN ds),(dc ds),_,([],(aX (ak (bY d) d.rights.length 0 ([])))),_,_,_,[(4,.ptr 1 0),(5,.ptr 2 0),(8,.ptr 5 0)],(fun s_1=>[.dead,.cells [.os 3],.cells [.os 7],.mp .registerTitle .int s_1.2 none,.mp .int .fnc dV none,.cells [.os 4],.dead,.row .int s_1.1]),(fun x=>x.elim),[0,1,2,3,4,5,6,6],?_,rfl,hok1,Nat.le_of_ble_eq_true rfl,?_,i7 ds _ hb1,fun z_1 s_1 hq1=>⟨rfl,L0,fun l=>?_,fun l=>?_,?_⟩,fun s_1=>?_,fun y=>?_⟩
   ·simp only[go_sem,e1_0,e1_1,e1_2,e1_3]
   ·simp only[go_sem,Nat.reduceBEq,Nat.reduceLeDiff,Nat.reduceLT,decide_true,Nat.reduceAdd,Nat.reduceSub,Nat.reduceMul,Int.reduceLE,Int.reduceLT,Int.reduceToNat,Int.reduceNeg,reduceCtorEq,s6,kV,List.flatMap_cons,List.flatMap_nil,List.nil_append,List.append_nil,List.map_nil,e1_0,e1_1,e1_2,e1_3]
    all_goals (first|done|decide|(repeat' (first|refine And.intro ?_ ?_|rfl|decide)))
   ·simp only[al,and_self,true_and,and_true]
   ·simp only[al,and_self,true_and,and_true]
   ·unfold dc at hq1
    rcases Bool.eq_false_or_eq_true (z_1.kind==1)with hk0|hk0
    ·simp only[go_sem,Nat.reduceBEq,Nat.reduceLeDiff,Nat.reduceLT,decide_true,Nat.reduceAdd,Nat.reduceSub,Nat.reduceMul,Int.reduceLE,Int.reduceLT,Int.reduceToNat,Int.reduceNeg,reduceCtorEq,k_,bN,psT,tt,List.cons_append,List.nil_append,hk0]
     all_goals exact mY
    rcases Bool.eq_false_or_eq_true (z_1.kind==2)with hk1|hk1
    ·simp only[go_sem,Nat.reduceBEq,Nat.reduceLeDiff,Nat.reduceLT,decide_true,Nat.reduceAdd,Nat.reduceSub,Nat.reduceMul,Int.reduceLE,Int.reduceLT,Int.reduceToNat,Int.reduceNeg,reduceCtorEq,k_,bN,psT,tt,List.cons_append,List.nil_append,hk0,hk1]
     all_goals exact mY
    rcases Bool.eq_false_or_eq_true (z_1.kind==3)with hk2|hk2
    ·simp only[go_sem,Nat.reduceBEq,Nat.reduceLeDiff,Nat.reduceLT,decide_true,Nat.reduceAdd,Nat.reduceSub,Nat.reduceMul,Int.reduceLE,Int.reduceLT,Int.reduceToNat,Int.reduceNeg,reduceCtorEq,k_,bN,psT,tt,List.cons_append,List.nil_append,hk0,hk1,hk2]
     all_goals exact mY
    simp only[go_sem,Nat.reduceBEq,Nat.reduceLeDiff,Nat.reduceLT,decide_true,Nat.reduceAdd,Nat.reduceSub,Nat.reduceMul,Int.reduceLE,Int.reduceLT,Int.reduceToNat,Int.reduceNeg,reduceCtorEq,k_,bN,psT,tt,List.cons_append,List.nil_append,hk0,hk1,hk2]
    all_goals exact mY
   ·simp only[go_sem,Nat.reduceBEq,Nat.reduceLeDiff,Nat.reduceLT,decide_true,Nat.reduceAdd,Nat.reduceSub,Nat.reduceMul,Int.reduceLE,Int.reduceLT,Int.reduceToNat,Int.reduceNeg,reduceCtorEq,k_]
    all_goals exact mY
   ·simp only[go_sem,Nat.reduceBEq,Nat.reduceLeDiff,Nat.reduceLT,decide_true,Nat.reduceAdd,Nat.reduceSub,Nat.reduceMul,Int.reduceLE,Int.reduceLT,Int.reduceToNat,Int.reduceNeg,reduceCtorEq,k_]
    all_goals exact mY
 ·unfold ae Tryz.f48
  try unfold cO
  simp only[go_sem,Nat.reduceBEq,Nat.reduceLeDiff,Nat.reduceLT,decide_true,Nat.reduceAdd,Nat.reduceSub,Nat.reduceMul,Int.reduceLE,Int.reduceLT,Int.reduceToNat,Int.reduceNeg,reduceCtorEq,k_]
  all_goals exact cl
end Go.Sx
end
