/- Part of the proof that the law RegisterSpec returns true and leaves its arguments as they were, for all arguments of bulk at most 1048576 (the Upto form). -/
import Derived.Test.YthcbieoehjhjfaaGreatQ110
import Derived.Test.YthcbieoehjhjfaaGreatQ109
import Derived.Test.YthcbieoehjhjfaaGreatQ108
import Derived.Calls
import Derived.Shelf.SlSortCmp.NoneTotal
import Derived.Shelf.SortM.Plain
import Derived.Shelf.SortM.SortNone
import Derived.Ground.SlgmProg
import Derived.Shelf.SlGeneric
import Derived.Test.YthcbieoehjhjfaaGreatProg
set_option linter.all false
set_option maxHeartbeats 4000000
set_option maxRecDepth 100000
section
namespace Go.Sx
open Go.Proofs
open IntKind (i64 u64)
theorem Sk {c1 c2 c3:Bool}{l rot:List Deed}(f1 f2:List Deed->List Deed):
  (bif c1 then(bif c2 then(bif c3 then f2 (f1 rot)else f1 rot)else(bif c3 then f2 rot else rot))else(bif c2 then(bif c3 then f2 (f1 l)else f1 l)else(bif c3 then f2 l else l)))=(bif c3 then f2 (bif c2 then f1 (bif c1 then rot else l)else(bif c1 then rot else l))else(bif c2 then f1 (bif c1 then rot else l)else(bif c1 then rot else l))):=by
 cases c1 <;>cases c2 <;>cases c3 <;>rfl
theorem NZ {c1 c2 c3:Bool}{l rot:List Deed}{rp:Prop}(f1:List Deed->List Deed)(p1 p2:List Deed->Prop)(h1:c1=true->rp)(h2:c2=true->p1 (bif c1 then rot else l))(h3:c3=true->p2 (bif c2 then f1 (bif c1 then rot else l)else(bif c1 then rot else l))):
  ((c1=true->(rp/\((c2=true->(p1 rot/\(c3=true->p2 (f1 rot))))/\(c2=false->c3=true->p2 rot))))/\(c1=false->((c2=true->(p1 l/\(c3=true->p2 (f1 l))))/\(c2=false->c3=true->p2 l)))):=by
 cases c1 <;>cases c2 <;>cases c3 <;>simp_all
theorem Dl {N:Nat}{rec_:Int->Int->Int->List Deed->List Deed}{recp_:Int->Int->Int->List Deed->Prop}(hr:LZ N rec_ recp_)(A U V C:List Deed)(hU2:2<=U.length)(hV2:2<=V.length)(hN:U.length+V.length<=N+1)(hl:(A++U++V++C).length<2 ^ 60)(hU:Srt U)(hV:Srt V):
  oQ rec_ recp_ (A.length:Int) ((A.length+U.length:Nat):Int) ((A.length+U.length+V.length:Nat):Int) (A++U++V++C)/\
  ∃ M,Ad rec_ recp_ (A.length:Int) ((A.length+U.length:Nat):Int) ((A.length+U.length+V.length:Nat):Int) (A++U++V++C)=A++M++C/\SameF (U++V) M/\Srt M/\M.length=U.length+V.length:=by
 have hL:(A++U++V++C).length=A.length+U.length+V.length+C.length:=by simp[Nat.add_assoc]
 have gU:∀ h,A.length<=h->h<A.length+U.length->(A++U++V++C).getD h default=U.getD (h - A.length) default:=fun h h1 h2=>by
  have:=sN A U (V++C) default (h:=h) h1 h2;simpa using this
 have gV:∀ h,A.length+U.length<=h->h<A.length+U.length+V.length->(A++U++V++C).getD h default=V.getD (h - (A.length+U.length)) default:=fun h h1 h2=>by
  have:=sN (A++U) V C default (h:=h) (by simp;omega) (by simp;omega);simpa using this
 have hmid:i64.wrap (im .u64 (u64.wrap (i64.wrap ((A.length:Int)+((A.length+U.length+V.length:Nat):Int)))) 1)=((A.length+(U.length+V.length) / 2:Nat):Int):=by
  rw[BI (by omega) (by omega)];omega
 generalize hmd:A.length+(U.length+V.length) / 2=mid at *;have hn:i64.wrap ((mid:Int)+((A.length+U.length:Nat):Int))=((mid+(A.length+U.length):Nat):Int):=by rw[a8 (by omega) (by omega)];omega
 have hp1:i64.wrap (((mid+(A.length+U.length):Nat):Int) - 1)=((mid+(A.length+U.length) - 1:Nat):Int):=by rw[a8 (by omega) (by omega)];omega
 have w1:i64.wrap (((A.length+U.length:Nat):Int) - (A.length:Int))=(U.length:Int):=by rw[a8 (by omega) (by omega)];omega
 have w2:i64.wrap (((A.length+U.length+V.length:Nat):Int) - ((A.length+U.length:Nat):Int))=(V.length:Int):=by rw[a8 (by omega) (by omega)];omega
 have b1:((U.length:Int) ==1)=false:=by simp;omega
 have b2:((V.length:Int) ==1)=false:=by simp;omega
 obtain⟨lo,elo,hlo⟩:∃ lo:Nat,(bif decide (((A.length+U.length:Nat):Int) > (mid:Int))then i64.wrap (((mid+(A.length+U.length):Nat):Int) - ((A.length+U.length+V.length:Nat):Int))else(A.length:Int))=(lo:Int)/\((mid<A.length+U.length/\lo+V.length=mid)\/(A.length+U.length<=mid/\lo=A.length)):=by
  by_cases h:mid<A.length+U.length
  ·refine⟨mid - V.length,?_,.inl ⟨h,by omega⟩⟩;rw[decide_eq_true (by omega),cond_true,a8 (by omega) (by omega)];omega
  ·refine⟨A.length,?_,.inr ⟨by omega,rfl⟩⟩;rw[decide_eq_false (by omega),cond_false]
 obtain⟨hi,ehi,hhi⟩:∃ hi:Nat,(bif decide (((A.length+U.length:Nat):Int) > (mid:Int))then(mid:Int)else((A.length+U.length:Nat):Int))=(hi:Int)/\((mid<A.length+U.length/\hi=mid)\/(A.length+U.length<=mid/\hi=A.length+U.length)):=by
  by_cases h:mid<A.length+U.length
  ·exact⟨mid,by rw[decide_eq_true (by omega),cond_true],.inl ⟨h,rfl⟩⟩
  ·exact⟨A.length+U.length,by rw[decide_eq_false (by omega),cond_false],.inr ⟨by omega,rfl⟩⟩
 have s:=Ah (step:=ql (A.length:Int) ((A.length+U.length:Nat):Int) ((A.length+U.length+V.length:Nat):Int) (A++U++V++C)) (p:=mD (A.length:Int) ((A.length+U.length:Nat):Int) ((A.length+U.length+V.length:Nat):Int) (A++U++V++C)) (fun c=>!decide ((V.getD (mid - 1 - c) default).at_< (U.getD (c - A.length) default).at_)) lo hi (by omega)
  (fun i j h1 h2 h3 h4=>by
   have q1:=lM hU (i:=i - A.length) (j:=j - A.length) (by omega) (by omega);have q2:=lM hV (i:=mid - 1 - j) (j:=mid - 1 - i) (by omega) (by omega);simp only[Bool.not_eq_true',decide_eq_false_iff_not]at h4 |-;omega)
  (fun k i j h1 h2 h3=>by
   have e:decide ((i:Int) < (j:Int))=true:=by rw[decide_eq_true_eq];omega
   have hc:i64.wrap (((mid+(A.length+U.length) - 1:Nat):Int) - (((i+j) / 2:Nat):Int))=((mid+(A.length+U.length) - 1 - (i+j) / 2:Nat):Int):=by rw[a8 (by omega) (by omega)];omega
   have e2:mid+(A.length+U.length) - 1 - (i+j) / 2 - (A.length+U.length)=mid - 1 - (i+j) / 2:=by omega
   unfold mD ql;simp only[hmid,hn,hp1,BI (i:=i) (j:=j) (by omega) (by omega),e,cond_true,hc,Int.toNat_natCast,gU ((i+j) / 2) (by omega) (by omega),gV (mid+(A.length+U.length) - 1 - (i+j) / 2) (by omega) (by omega),e2,Er,hL];have w2:i64.wrap ((((i+j) / 2:Nat):Int)+1)=(((i+j) / 2+1:Nat):Int):=by rw[a8 (by omega) (by omega)];omega
   rw[w2];exact⟨fun _=>by omega,rfl⟩)
  (fun k i=>by
   have e:decide ((i:Int) < (i:Int))=false:=by simp
   unfold mD ql;simp only[e,cond_false];exact⟨fun h=>by simp at h,trivial⟩) ((A++U++V++C).length+1) 0 (by omega)
 obtain⟨s1,r,s2,q,rfl,q1,q2,q3,q4⟩:=s;have hend:i64.wrap (((mid+(A.length+U.length):Nat):Int) - (q:Int))=((mid+(A.length+U.length) - q:Nat):Int):=by rw[a8 (by omega) (by omega)];omega
 have hUs:U.take (q - A.length)++U.drop (q - A.length)=U:=List.take_append_drop _ _;have hVs:V.take (mid - q)++V.drop (mid - q)=V:=List.take_append_drop _ _;have lU1:(U.take (q - A.length)).length=q - A.length:=by rw[List.length_take];omega
 have lU2:(U.drop (q - A.length)).length=A.length+U.length - q:=by rw[List.length_drop];omega
 have lV1:(V.take (mid - q)).length=mid - q:=by rw[List.length_take];omega
 have lV2:(V.drop (mid - q)).length=V.length+q - mid:=by rw[List.length_drop];omega
 have k1:∀ x∈U.take (q - A.length),∀ y∈V.drop (mid - q),x.at_<=y.at_:=fun x hx y hy=>by
  obtain⟨i,i1,i2,rfl⟩:=sO hx;obtain⟨j,j1,j2,rfl⟩:=sP hy;have:=q3 (q - 1) (by omega) (by omega);have p1:=lM hU (i:=i) (j:=q - 1 - A.length) (by omega) (by omega);have p2:=lM hV (i:=mid - 1 - (q - 1)) (j:=j) (by omega) (by omega);simp only[Bool.not_eq_true',decide_eq_false_iff_not]at this;omega
 have k2:∀ x∈U.drop (q - A.length),∀ y∈V.take (mid - q),y.at_<x.at_:=fun x hx y hy=>by
  obtain⟨i,i1,i2,rfl⟩:=sP hx;obtain⟨j,j1,j2,rfl⟩:=sO hy;have:=q4 q (by omega) (by omega);have p1:=lM hU (i:=q - A.length) (j:=i) (by omega) (by omega);have p2:=lM hV (i:=j) (j:=mid - 1 - q) (by omega) (by omega);simp only[Bool.not_eq_false',decide_eq_true_eq]at this;omega
 generalize hE1:U.take (q - A.length)=U1 at *;generalize hE2:U.drop (q - A.length)=U2 at *;generalize hE3:V.take (mid - q)=V1 at *;generalize hE4:V.drop (mid - q)=V2 at *;have lenU:U.length=U1.length+U2.length:=by rw[<-hUs,List.length_append]
 have lenV:V.length=V1.length+V2.length:=by rw[<-hVs,List.length_append]
 have hlist:A++U++V++C=A++U1++U2++V1++(V2++C):=by rw[<-hUs,<-hVs];simp
 obtain⟨sU1,sU2,sU⟩:=vo (by rw[hUs];exact hU:Srt (U1++U2));obtain⟨sV1,sV2,sV⟩:=vo (by rw[hVs];exact hV:Srt (V1++V2));have hrot:(decide ((q:Int) < ((A.length+U.length:Nat):Int))&&decide (((A.length+U.length:Nat):Int) < ((mid+(A.length+U.length) - q:Nat):Int)))=true->a_ (q:Int) ((A.length+U.length:Nat):Int) ((mid+(A.length+U.length) - q:Nat):Int) (A++U++V++C)/\am (q:Int) ((A.length+U.length:Nat):Int) ((mid+(A.length+U.length) - q:Nat):Int) (A++U++V++C)=A++U1++V1++(U2++V2++C):=fun h=>by
  simp only[Bool.and_eq_true,decide_eq_true_eq]at h;have:=FM (A++U1) U2 V1 (V2++C) (by rw[<-List.length_pos_iff];omega) (by rw[<-List.length_pos_iff];omega) (by rw[<-hlist];omega);have e1:(((A++U1).length:Nat):Int)=(q:Int):=by rw[List.length_append];omega
  have e2:(((A++U1).length+U2.length:Nat):Int)=((A.length+U.length:Nat):Int):=by rw[List.length_append];omega
  have e3:(((A++U1).length+U2.length+V1.length:Nat):Int)=((mid+(A.length+U.length) - q:Nat):Int):=by rw[List.length_append];omega
  rw[<-hlist,e1,e2,e3]at this;refine⟨this.1,this.2.trans (by simp)⟩
 have hl1:(bif(decide ((q:Int) < ((A.length+U.length:Nat):Int))&&decide (((A.length+U.length:Nat):Int) < ((mid+(A.length+U.length) - q:Nat):Int)))then am (q:Int) ((A.length+U.length:Nat):Int) ((mid+(A.length+U.length) - q:Nat):Int) (A++U++V++C)else A++U++V++C)=A++U1++V1++(U2++V2++C):=by
  cases hc:(decide ((q:Int) < ((A.length+U.length:Nat):Int))&&decide (((A.length+U.length:Nat):Int) < ((mid+(A.length+U.length) - q:Nat):Int)))with
  |true=>rw[cond_true,(hrot hc).2]
  |false=>
   rw[cond_false,hlist];simp only[Bool.and_eq_false_iff,decide_eq_false_iff_not]at hc;have:U2=[]\/V1=[]:=by
    rcases hc with hc|hc
    ·exact .inl (List.eq_nil_of_length_eq_zero (by omega))
    ·exact .inr (List.eq_nil_of_length_eq_zero (by omega))
   rcases this with rfl|rfl <;>simp
 obtain⟨M1,hM1p,hM1,f1,t1,l1⟩:∃ M1,((decide ((A.length:Int) < (q:Int))&&decide ((q:Int) < (mid:Int)))=true->recp_ (A.length:Int) (q:Int) (mid:Int) (A++U1++V1++(U2++V2++C)))/\(bif(decide ((A.length:Int) < (q:Int))&&decide ((q:Int) < (mid:Int)))then rec_ (A.length:Int) (q:Int) (mid:Int) (A++U1++V1++(U2++V2++C))else A++U1++V1++(U2++V2++C))=A++M1++(U2++V2++C)/\SameF (U1++V1) M1/\Srt M1/\M1.length=U1.length+V1.length:=by
  cases hc:(decide ((A.length:Int) < (q:Int))&&decide ((q:Int) < (mid:Int)))with
  |true=>
   simp only[Bool.and_eq_true,decide_eq_true_eq]at hc;obtain⟨h1,M1,h2,h3,h4,h5⟩:=hr A U1 V1 (U2++V2++C) (by rw[<-List.length_pos_iff];omega) (by rw[<-List.length_pos_iff];omega) (by omega) (by simp only[List.length_append]at hl |-;omega) sU1 sV1;have e1:((A.length+U1.length:Nat):Int)=(q:Int):=by omega
   have e2:((A.length+U1.length+V1.length:Nat):Int)=(mid:Int):=by omega
   rw[e1,e2]at h1 h2;exact⟨M1,fun _=>h1,h2,h3,h4,h5⟩
  |false=>
   simp only[Bool.and_eq_false_iff,decide_eq_false_iff_not]at hc;refine⟨U1++V1,(fun h=>by cases h),by simp,SameF.refl _,?_,List.length_append⟩;have:U1=[]\/V1=[]:=by
    rcases hc with hc|hc
    ·exact .inl (List.eq_nil_of_length_eq_zero (by omega))
    ·exact .inr (List.eq_nil_of_length_eq_zero (by omega))
   rcases this with rfl|rfl
   ·exact sV1
   ·simpa using sU1
 obtain⟨M2,hM2p,hM2,f2,t2,l2⟩:∃ M2,((decide ((mid:Int) < ((mid+(A.length+U.length) - q:Nat):Int))&&decide (((mid+(A.length+U.length) - q:Nat):Int) < ((A.length+U.length+V.length:Nat):Int)))=true->recp_ (mid:Int) ((mid+(A.length+U.length) - q:Nat):Int) ((A.length+U.length+V.length:Nat):Int) (A++M1++(U2++V2++C)))/\(bif(decide ((mid:Int) < ((mid+(A.length+U.length) - q:Nat):Int))&&decide (((mid+(A.length+U.length) - q:Nat):Int) < ((A.length+U.length+V.length:Nat):Int)))then rec_ (mid:Int) ((mid+(A.length+U.length) - q:Nat):Int) ((A.length+U.length+V.length:Nat):Int) (A++M1++(U2++V2++C))else A++M1++(U2++V2++C))=A++M1++M2++C/\SameF (U2++V2) M2/\Srt M2/\M2.length=U2.length+V2.length:=by
  cases hc:(decide ((mid:Int) < ((mid+(A.length+U.length) - q:Nat):Int))&&decide (((mid+(A.length+U.length) - q:Nat):Int) < ((A.length+U.length+V.length:Nat):Int)))with
  |true=>
   simp only[Bool.and_eq_true,decide_eq_true_eq]at hc;obtain⟨h1,M2,h2,h3,h4,h5⟩:=hr (A++M1) U2 V2 C (by rw[<-List.length_pos_iff];omega) (by rw[<-List.length_pos_iff];omega) (by omega) (by simp only[List.length_append]at hl |-;omega) sU2 sV2;have e0:(((A++M1).length:Nat):Int)=(mid:Int):=by rw[List.length_append];omega
   have e1:(((A++M1).length+U2.length:Nat):Int)=((mid+(A.length+U.length) - q:Nat):Int):=by rw[List.length_append];omega
   have e2:(((A++M1).length+U2.length+V2.length:Nat):Int)=((A.length+U.length+V.length:Nat):Int):=by rw[List.length_append];omega
   have e3:A++M1++U2++V2++C=A++M1++(U2++V2++C):=by simp
   rw[e0,e1,e2,e3]at h1 h2;exact⟨M2,fun _=>h1,h2,h3,h4,h5⟩
  |false=>
   simp only[Bool.and_eq_false_iff,decide_eq_false_iff_not]at hc;refine⟨U2++V2,(fun h=>by cases h),by simp,SameF.refl _,?_,List.length_append⟩;have:U2=[]\/V2=[]:=by
    rcases hc with hc|hc
    ·exact .inl (List.eq_nil_of_length_eq_zero (by omega))
    ·exact .inr (List.eq_nil_of_length_eq_zero (by omega))
   rcases this with rfl|rfl
   ·exact sV2
   ·simpa using sU2
 unfold oQ Ad;simp only[w1,w2,b1,b2,hmid,hn,elo,ehi,s2,hend,cond_false];refine⟨⟨(fun h=>by cases h),fun _=>⟨(fun h=>by cases h),fun _=>⟨s1,(fun z h=>by cases h),fun z hz=>?_⟩⟩⟩,M1++M2,?_,?_,?_,?_⟩
 ·cases hz;simp only[hend];exact NZ (fun l=>rec_ (A.length:Int) (q:Int) (mid:Int) l) (fun l=>recp_ (A.length:Int) (q:Int) (mid:Int) l) (fun l=>recp_ (mid:Int) ((mid+(A.length+U.length) - q:Nat):Int) ((A.length+U.length+V.length:Nat):Int) l) (fun h=>(hrot h).1) (fun h=>by rw[hl1];exact hM1p h) (fun h=>by rw[hl1];simp only[hM1];exact hM2p h)
 ·refine(Sk (fun l=>rec_ (A.length:Int) (q:Int) (mid:Int) l) (fun l=>rec_ (mid:Int) ((mid+(A.length+U.length) - q:Nat):Int) ((A.length+U.length+V.length:Nat):Int) l)).trans ?_;rw[hl1];simp only[hM1];rw[hM2];simp
 ·have h0:SameF (U2++V1) (V1++U2):=SameF.swap fun a ha b hb=>by have:=k2 a ha b hb;omega
  have h1:SameF (U++V) (U1++V1++(U2++V2)):=by
   rw[<-hUs,<-hVs];have:=((SameF.refl U1).app h0).app (SameF.refl V2);simpa using this
  exact h1.trans (f1.app f2)
 ·refine xh t1 t2 fun x hx y hy=>?_;have hx:=f1.symm.mem hx;have hy:=f2.symm.mem hy;rcases List.mem_append.1 hx with hx|hx <;>rcases List.mem_append.1 hy with hy|hy
  ·exact sU x hx y hy
  ·exact k1 x hx y hy
  ·exact Int.le_of_lt (k2 y hy x hx)
  ·exact sV x hx y hy
 ·rw[List.length_append];omega
theorem BK:∀ n,LZ n (kY n).1 (kY n).2
 |0=>fun A U V C hU hV h=>absurd (List.length_pos_iff.2 hU) (by omega)
 |n+1=>fun A U V C hU hV hN hl sU sV=>by
  have pU:=List.length_pos_iff.2 hU;have pV:=List.length_pos_iff.2 hV;by_cases h1:U.length=1
  ·obtain⟨x,rfl⟩:=List.length_eq_one_iff.1 h1;exact Dk _ _ A V C x hl sV
  ·by_cases h2:V.length=1
   ·obtain⟨x,rfl⟩:=List.length_eq_one_iff.1 h2;exact BJ _ _ A U C x (by omega) hl sU
   ·exact Dl (BK n) A U V C (by omega) (by omega) hN hl sU sV
theorem Ie (A U V C:List Deed)(hU:U≠[])(hV:V≠[])(hl:(A++U++V++C).length<2 ^ 60)(sU:Srt U)(sV:Srt V):
  bE (A.length:Int) ((A.length+U.length:Nat):Int) ((A.length+U.length+V.length:Nat):Int) (A++U++V++C)/\
  ∃ M,bQ (A.length:Int) ((A.length+U.length:Nat):Int) ((A.length+U.length+V.length:Nat):Int) (A++U++V++C)=A++M++C/\SameF (U++V) M/\Srt M/\M.length=U.length+V.length:=
 BK ((A++U++V++C).length+1) A U V C hU hV (by simp only[List.length_append];omega) hl sU sV
inductive Blk (n:Nat):List Deed->Prop
 |last {l:List Deed}:l.length<=n->Srt l->Blk n l
 |cons {b l:List Deed}:b.length=n->Srt b->Blk n l->Blk n (b++l)
inductive Full (n:Nat):List Deed->Prop
 |nil:Full n []
 |snoc {l b:List Deed}:Full n l->b.length=n->Srt b->Full n (l++b)
theorem Full.app {n:Nat}{a:List Deed}(h:Full n a):∀ {l:List Deed},Blk n l->Blk n (a++l):=by
 induction h with
 |nil=>exact fun h=>h
 |snoc _ hb hs ih=>exact fun h=>by rw[List.append_assoc];exact ih (.cons hb hs h)
theorem Blk.srt {n:Nat}{l:List Deed}(h:Blk n l)(hl:l.length<=n):Srt l:=by
 cases h with
 |last _ hs=>exact hs
 | @cons b r hb hs h=>
  rw[List.length_append]at hl;have:=List.eq_nil_of_length_eq_zero (show r.length=0 by omega);subst this;simpa using hs
theorem Blk.split {n:Nat}{l:List Deed}(h:Blk n l)(hl:n<=l.length):∃ b r,l=b++r/\b.length=n/\Srt b/\Blk n r:=by
 cases h with
 |last h1 hs=>exact⟨l,[],by simp,by omega,hs,.last (Nat.zero_le _) List.Pairwise.nil⟩
 |cons hb hs h=>exact⟨_,_,rfl,hb,hs,h⟩
theorem qn {a b:List Deed}(h:SameF a b):a.length=b.length:=by
 have e:∀ {l:List Deed},stS l=l\/True:=fun {_} =>.inr trivial;have h1:∀ l:List Deed,(stS l).length=l.length:=fun l=>by
  induction l with
  |nil=>rfl
  |cons x r ih=>
   have:∀ l:List Deed,(stI x l).length=l.length+1:=fun l=>by
    induction l with
    |nil=>rfl
    |cons y l ih2=>
     unfold stI;by_cases hc:x.at_<=y.at_
     ·rw[if_pos hc];simp
     ·rw[if_neg hc];simp[ih2]
   show(stI x (stS r)).length=_;rw[this,ih];rfl
 rw[<-h1 a,<-h1 b,xj (h.trans (pL b)) (Ai b)]
theorem yX (l:List Deed)(hl:l.length<2 ^ 58):bo (l.length:Int) l/\bF (l.length:Int) l=stS l:=by
 obtain⟨k1,r,k2,D,R,rfl,k3,k4,k5,k6⟩:okI (a7 (l.length:Int)) (b8 (l.length:Int)) (Int.toNat (l.length:Int)+1) 0 (l,0,20)/\∃ r,aj (a7 (l.length:Int)) (Int.toNat (l.length:Int)+1) 0 (l,0,20)=.inl r/\∃ D R,r=(((D.length:Nat):Int),D++R)/\Full 20 D/\SameF l (D++R)/\R.length<20/\l.length=D.length+R.length:=by
  refine xg (fun s:List Deed×Int×Int=>((l.length:Int) - s.2.1).toNat) (fun s:List Deed×Int×Int=>∃ D R,s=(D++R,((D.length:Nat):Int),((D.length+20:Nat):Int))/\Full 20 D/\SameF l (D++R)/\l.length=D.length+R.length) _ ?_ _ _ _ ⟨[],l,rfl,.nil,SameF.refl _,by simp⟩ (by simp only[Int.toNat_natCast];omega);rintro k s ⟨D,R,rfl,hD,hF,hlen⟩;unfold b8 a7;by_cases h:20<=R.length
  ·have e:decide (((D.length+20:Nat):Int)<=(l.length:Int))=true:=by rw[decide_eq_true_eq];omega
   have hRs:R.take 20++R.drop 20=R:=List.take_append_drop _ _;have hRt:(R.take 20).length=20:=by rw[List.length_take];omega
   have hRd:(R.drop 20).length=R.length - 20:=List.length_drop;have hi:=yW D (R.take 20) (R.drop 20) (by simp only[List.length_append];omega);rw[List.append_assoc D,hRs,hRt]at hi;obtain⟨i1,M,i2,i3,i4⟩:=hi;have hM:=qn i3;have w:i64.wrap (((D.length+20:Nat):Int)+20)=(((D++M).length+20:Nat):Int):=by rw[a8 (by omega) (by omega),List.length_append];omega
   simp only[e,cond_true,w];refine⟨fun _=>i1,.inr ⟨_,rfl,by simp only;omega,D++M,R.drop 20,?_,hD.snoc (by omega) i4,?_,by rw[List.length_append];omega⟩⟩
   ·rw[i2];have:((D.length+20:Nat):Int)=(((D++M).length:Nat):Int):=by rw[List.length_append];omega
    rw[this]
   ·refine hF.trans ?_;have:=((SameF.refl D).app (i3.app (SameF.refl (R.drop 20))));rw[hRs]at this;simpa using this
  ·have e:decide (((D.length+20:Nat):Int)<=(l.length:Int))=false:=by rw[decide_eq_false_iff_not];omega
   simp only[e,cond_false];exact⟨(fun h=>by cases h),.inl ⟨_,rfl,D,R,rfl,hD,hF,by omega,hlen⟩⟩
 have hi:=yW D R [] (by simp only[List.length_append,List.length_nil];omega);have eN:((D.length+R.length:Nat):Int)=(l.length:Int):=by omega
 rw[List.append_nil,eN]at hi;obtain⟨i1,M,i2,i3,i4⟩:=hi;rw[List.append_nil]at i2;have hM:=qn i3;have hB0:Blk 20 (D++M):=k3.app (.last (by omega) i4);have hF0:SameF l (D++M):=k4.trans ((SameF.refl D).app i3);obtain⟨m1,r,m2,m3,m4⟩:okI (bh (l.length:Int)) (bC (l.length:Int)) (Int.toNat (l.length:Int)+1) 0 (D++M,20)/\∃ r,aj (bh (l.length:Int)) (Int.toNat (l.length:Int)+1) 0 (D++M,20)=.inl r/\SameF l r/\Srt r:=by
  refine xg (fun s:List Deed×Int=>((l.length:Int) - s.2).toNat) (fun s:List Deed×Int=>∃ (L:List Deed) (n:Nat),s=(L,(n:Int))/\20<=n/\n<2 ^ 59/\Blk n L/\SameF l L) _ ?_ _ _ _ ⟨D++M,20,rfl,Nat.le_refl _,by omega,hB0,hF0⟩ (by simp only[Int.toNat_natCast];omega);rintro k s ⟨L,n,rfl,hn,hn2,hB,hF⟩;have hLl:=qn hF;by_cases h:n<l.length
  ·have e:decide ((n:Int) < (l.length:Int))=true:=by rw[decide_eq_true_eq];omega
   have w2:i64.wrap (2*(n:Int))=((2*n:Nat):Int):=by rw[a8 (by omega) (by omega)];omega
   have w2':i64.wrap ((n:Int)*2)=((2*n:Nat):Int):=by rw[a8 (by omega) (by omega)];omega
   obtain⟨p1,r,p2,D,R,rfl,p3,p4,p5,p6,p7⟩:okI (bK (l.length:Int) (L,(n:Int))) (b9 (l.length:Int) (L,(n:Int))) (Int.toNat (l.length:Int)+1) 0 (L,0,((2*n:Nat):Int))/\∃ r,aj (bK (l.length:Int) (L,(n:Int))) (Int.toNat (l.length:Int)+1) 0 (L,0,((2*n:Nat):Int))=.inl r/\∃ D R,r=(((D.length:Nat):Int),D++R)/\Full (2*n) D/\Blk n R/\SameF l (D++R)/\R.length<2*n/\l.length=D.length+R.length:=by
    refine xg (fun s:List Deed×Int×Int=>((l.length:Int) - s.2.1).toNat) (fun s:List Deed×Int×Int=>∃ D R,s=(D++R,((D.length:Nat):Int),((D.length+2*n:Nat):Int))/\Full (2*n) D/\Blk n R/\SameF l (D++R)/\l.length=D.length+R.length) _ ?_ _ _ _ ⟨[],L,by simp,.nil,hB,hF,by simpa using hLl⟩ (by simp only[Int.toNat_natCast];omega);rintro k s ⟨D,R,rfl,hD,hR,hF,hlen⟩;unfold b9 bK;by_cases h:2*n<=R.length
    ·have e:decide (((D.length+2*n:Nat):Int)<=(l.length:Int))=true:=by rw[decide_eq_true_eq];omega
     obtain⟨B1,R1,rfl,b1,b2,b3⟩:=hR.split (by omega);rw[List.length_append]at h hlen;obtain⟨B2,R2,rfl,c1,c2,c3⟩:=b3.split (by omega);rw[List.length_append]at h hlen;obtain⟨i1,M,i2,i3,i4,i5⟩:=Ie D B1 B2 R2 (by rw[<-List.length_pos_iff];omega) (by rw[<-List.length_pos_iff];omega) (by simp only[List.length_append];omega) b2 c2;have e0:D++B1++B2++R2=D++(B1++(B2++R2)):=by simp
     have e1:((D.length+B1.length+B2.length:Nat):Int)=((D.length+2*n:Nat):Int):=by omega
     have e2:i64.wrap ((D.length:Int)+(n:Int))=((D.length+B1.length:Nat):Int):=by rw[a8 (by omega) (by omega)];omega
     rw[e0,e1]at i1 i2;have w:i64.wrap (((D.length+2*n:Nat):Int)+((2*n:Nat):Int))=(((D++M).length+2*n:Nat):Int):=by rw[a8 (by omega) (by omega),List.length_append];omega
     simp only[e,cond_true,e2,w2,w];refine⟨fun _=>i1,.inr ⟨_,rfl,by simp only;omega,D++M,R2,?_,hD.snoc (by omega) i4,c3,?_,by rw[List.length_append];omega⟩⟩
     ·rw[i2];have:((D.length+2*n:Nat):Int)=(((D++M).length:Nat):Int):=by rw[List.length_append];omega
      rw[this]
     ·refine hF.trans ?_;have:=(SameF.refl D).app (i3.app (SameF.refl R2));simpa using this
    ·have e:decide (((D.length+2*n:Nat):Int)<=(l.length:Int))=false:=by rw[decide_eq_false_iff_not];omega
     simp only[e,cond_false];exact⟨(fun h=>by cases h),.inl ⟨_,rfl,D,R,rfl,hD,hR,hF,by omega,hlen⟩⟩
   have wm:i64.wrap ((D.length:Int)+(n:Int))=((D.length+n:Nat):Int):=by rw[a8 (by omega) (by omega)];omega
   unfold bC bh;simp only[e,cond_true,w2,w2',p2,wm];by_cases hm:n<R.length
   ·have em:decide (((D.length+n:Nat):Int) < (l.length:Int))=true:=by rw[decide_eq_true_eq];omega
    obtain⟨B1,R1,rfl,b1,b2,b3⟩:=p4.split (by omega);rw[List.length_append]at hm p6 p7;have b4:=b3.srt (by omega);obtain⟨i1,M,i2,i3,i4,i5⟩:=Ie D B1 R1 [] (by rw[<-List.length_pos_iff];omega) (by rw[<-List.length_pos_iff];omega) (by simp only[List.length_append,List.length_nil];omega) b2 b4;have e0:D++B1++R1++[]=D++(B1++R1):=by simp
    have e1:((D.length+B1.length+R1.length:Nat):Int)=(l.length:Int):=by omega
    have e2:((D.length+B1.length:Nat):Int)=((D.length+n:Nat):Int):=by omega
    rw[e0,e1,e2]at i1 i2;rw[List.append_nil]at i2;refine⟨fun _=>⟨p1,(fun z h=>by cases h),fun x hx=>by cases hx;simp only[wm];exact fun _=>i1⟩,.inr ⟨(D++M,((2*n:Nat):Int)),by simp only[em,cond_true];rw[i2],by simp only;omega,D++M,2*n,rfl,by omega,by omega,p3.app (.last (by omega) i4),p5.trans ((SameF.refl D).app i3)⟩⟩
   ·have em:decide (((D.length+n:Nat):Int) < (l.length:Int))=false:=by rw[decide_eq_false_iff_not];omega
    refine⟨fun _=>⟨p1,(fun z h=>by cases h),fun x hx=>by cases hx;simp only[wm,em];exact fun h=>by cases h⟩,.inr ⟨(D++R,((2*n:Nat):Int)),by simp only[em,cond_false],by simp only;omega,D++R,2*n,rfl,by omega,by omega,p3.app (.last (by omega) (p4.srt (by omega))),p5⟩⟩
  ·have e:decide ((n:Int) < (l.length:Int))=false:=by rw[decide_eq_false_iff_not];omega
   unfold bC bh;simp only[e,cond_false];exact⟨(fun h=>by cases h),.inl ⟨_,rfl,hF,hB.srt (by omega)⟩⟩
 unfold bo bF;rw[k2];simp only[i2,m2];exact⟨⟨k1,(fun z h=>by cases h),fun x hx=>by cases hx;simp only[i2];exact⟨i1,m1,fun z h=>by rw[m2]at h;cases h⟩⟩,xj m3 m4⟩
theorem BL (l:List Deed)(hl:l.length<2 ^ 58):aZ l/\ba l=stS l:=⟨fun _=>(yX l hl).1,(yX l hl).2⟩
def c7 (x:Deed)(n:Int)(m_:List (RegisterTitle×Int)):List (RegisterTitle×Int):=(fH .registerTitle .int m_ ({ right:=x.right,farm:=x.to}:RegisterTitle) (i64.wrap ((dL .registerTitle .int m_ ({ right:=x.right,farm:=x.to}:RegisterTitle))+n)))
noncomputable def ib:List SV->List Ob->Option HCon:=fQ (fun x_:Deed×Int×(List (RegisterTitle×Int)) =>[.os 0,.agg (cellsOf .deed x_.1),.v (.int .i64 x_.2.1)]) (fun x_=>[.mp .registerTitle .int x_.2.2 none]) (fun x_=>dW True (.tup []) [.mp .registerTitle .int (c7 x_.1 x_.2.1 x_.2.2) none])
@[go_sem] theorem yY (x:Deed)(n:Int)(m_:List (RegisterTitle×Int)){p0_:Option (Nat×Option Tag.registerTitle.T)}(hp0_:p0_=none):ib ([.os 0,.agg [.v (.int .i64 x.no),.v (.int .i64 x.kind),.v (.int .i64 x.right),.v (.int .i64 x.since),.v (.int .i64 x.to),.rs .part x.parts,.v (.int .i64 x.of_),.v (.int .i64 x.at_),.v (.int .i64 x.known)],.v (.int .i64 n)]) ([.mp .registerTitle .int m_ p0_])=some (dW True (.tup []) [.mp .registerTitle .int (c7 x n m_) none]):=by
 subst hp0_;exact dZ (A:=fun x_:Deed×Int×(List (RegisterTitle×Int)) =>[.os 0,.agg (cellsOf .deed x_.1),.v (.int .i64 x_.2.1)]) (H:=fun x_=>[.mp .registerTitle .int x_.2.2 none]) (K:=fun x_=>dW True (.tup []) [.mp .registerTitle .int (c7 x_.1 x_.2.1 x_.2.2) none]) (x:=(x,n,m_))
theorem pa:FnOkO Tryz.prog 98 (ib):=by
 have hG:ConsOk Tryz.prog (mkG [] []):=av cg0 cg0;refine fO mixed al hG (fn:=Tryz.f98) (c:=ae Tryz.f98) kr kr kr kr fun l o con h=>?_;obtain⟨⟨x,n,m_⟩,rfl,rfl,rfl⟩:=cP h;clear h;try dsimp only
 refine⟨_,_,_,rfl,fun hp=>?_⟩;refine⟨nbl rfl,L0,?_,?_⟩
 ·unfold ae Tryz.f98;simp only[ak,and_self,true_and,and_true]
 ·unfold ae Tryz.f98;try unfold c7
  exact cH (jl [0])
@[go_sem] def bi (x:Deed)(n:Int)(k_0:Nat)(s_0:List (RegisterTitle×Int)×Int):Empty⊕(List (RegisterTitle×Int)×Int):=letI q1:=x.parts.getD k_0 default;letI q0:=({ right:=x.right,farm:=q1.farm}:RegisterTitle);letI q2:=eF (q1.share) n;.inr ((fH .registerTitle .int s_0.1 q0 (i64.wrap ((dL .registerTitle .int s_0.1 q0)+q2.1))),(i64.wrap (s_0.2 - q2.1)))
@[go_sem] def eB (x:Deed)(s_0:List (RegisterTitle×Int)×Int)(k_1:Nat)(s_1:List (RegisterTitle×Int)):Empty⊕(List (RegisterTitle×Int)):=letI q0:=({ right:=x.right,farm:=(((x.parts.take (Int.toNat s_0.2)).drop 0).getD k_1 default).farm}:RegisterTitle);.inr (fH .registerTitle .int s_1 q0 (i64.wrap ((dL .registerTitle .int s_1 q0)+1)))
def ca (x:Deed)(n:Int)(m_:List (RegisterTitle×Int)):List (RegisterTitle×Int):=(match aj (bi x n) x.parts.length 0 (m_,n)with| .inl x=>x.elim| .inr s_0=>(match aj (eB x s_0) (((x.parts.take (Int.toNat s_0.2)).drop 0).length) 0 s_0.1 with| .inl x=>x.elim| .inr s_1=>s_1))
def dz (x:Deed)(n:Int)(m_:List (RegisterTitle×Int)):Prop:=(x.parts.length<=bb->(∀ s_0,aj (bi x n) x.parts.length 0 (m_,n)=.inr s_0->(0<=0/\0<=s_0.2/\s_0.2<=(x.parts.length:Int))))
noncomputable def gL:List SV->List Ob->Option HCon:=fQ (fun x_:Deed×Int×(List (RegisterTitle×Int)) =>[.os 0,.agg (cellsOf .deed x_.1),.v (.int .i64 x_.2.1)]) (fun x_=>[.mp .registerTitle .int x_.2.2 none]) (fun x_=>dW (dz x_.1 x_.2.1 x_.2.2) (.tup []) [.mp .registerTitle .int (ca x_.1 x_.2.1 x_.2.2) none])
@[go_sem] theorem xY (x:Deed)(n:Int)(m_:List (RegisterTitle×Int)){p0_:Option (Nat×Option Tag.registerTitle.T)}(hp0_:p0_=none):gL ([.os 0,.agg [.v (.int .i64 x.no),.v (.int .i64 x.kind),.v (.int .i64 x.right),.v (.int .i64 x.since),.v (.int .i64 x.to),.rs .part x.parts,.v (.int .i64 x.of_),.v (.int .i64 x.at_),.v (.int .i64 x.known)],.v (.int .i64 n)]) ([.mp .registerTitle .int m_ p0_])=some (dW (dz x n m_) (.tup []) [.mp .registerTitle .int (ca x n m_) none]):=by
 subst hp0_;exact dZ (A:=fun x_:Deed×Int×(List (RegisterTitle×Int)) =>[.os 0,.agg (cellsOf .deed x_.1),.v (.int .i64 x_.2.1)]) (H:=fun x_=>[.mp .registerTitle .int x_.2.2 none]) (K:=fun x_=>dW (dz x_.1 x_.2.1 x_.2.2) (.tup []) [.mp .registerTitle .int (ca x_.1 x_.2.1 x_.2.2) none]) (x:=(x,n,m_))
theorem oS:FnOkO Tryz.prog 99 (gL):=by
 have hG:ConsOk Tryz.prog (mkG [(32,qV)] []):=av (cgc wZ cg0) cg0;refine fO mixed al hG (fn:=Tryz.f99) (c:=ae Tryz.f99) kr kr kr kr fun l o con h=>?_;obtain⟨⟨x,n,m_⟩,rfl,rfl,rfl⟩:=cP h;clear h;try dsimp only
 refine⟨_,_,_,rfl,fun hp=>?_⟩;unfold dz at hp;refine⟨nbl rfl,(fun id st=>bif Nat.beq id 0 then some (LCR (ρ:=Empty) (σ:=(List (RegisterTitle×Int)×Int)) 2 [] [0,1] (fun k_0 s_0=>⟨[(0,.os 0),(2,.v (.int .i64 n)),(4,.ptr 1 0),(6,.v (.int .i64 s_0.2)),(16,.rs .part x.parts),(17,.v (.int .i64 (x.parts.length:Int))),(18,.v (.int .i64 (k_0:Int)))],[.mp .registerTitle .int s_0.1 none,.cells (cellsOf .deed x)]⟩) (bi x n) pT x.parts.length (m_,n) (x.parts.length<=bb) ((·.elim)) ((·.elim)) st)else bif Nat.beq id 2 then some (LCR (ρ:=Empty) (σ:=(List (RegisterTitle×Int))) 2 [] [0,1] (fun k_1 s_1=>⟨[(0,.os 0),(4,.ptr 1 0),(48,.rs .part ((x.parts.take (Int.toNat (cO (aj (bi x n) x.parts.length 0 (m_,n))).2)).drop 0)),(49,.v (.int .i64 (((x.parts.take (Int.toNat (cO (aj (bi x n) x.parts.length 0 (m_,n))).2)).drop 0).length:Int))),(50,.v (.int .i64 (k_1:Int)))],[.mp .registerTitle .int s_1 none,.cells (cellsOf .deed x)]⟩) (eB x (cO (aj (bi x n) x.parts.length 0 (m_,n)))) pT (((x.parts.take (Int.toNat (cO (aj (bi x n) x.parts.length 0 (m_,n))).2)).drop 0).length) ((cO (aj (bi x n) x.parts.length 0 (m_,n))).1) (((x.parts.take (Int.toNat (cO (aj (bi x n) x.parts.length 0 (m_,n))).2)).drop 0).length<=bb) ((·.elim)) ((·.elim)) st)else none),?_,?_⟩
 ·unfold ae Tryz.f99;simp only[ak,true_and,and_true,and_assoc];refine⟨?_,?_⟩
  ·refine d9 mixed al hG kr (fun _=>rfl) (x.parts.length:Int) rfl gX (fun hb0 k_0 s_0 hlt0 _ hw hc=>⟨L0,ah _,?_⟩) (fun hb0 s_0 hc=>?_)
   ·exact bY (jl [0,1])
   ·exact bZ (jl [0,1])
  ·refine d9 mixed al hG kr (fun _=>rfl) (((x.parts.take (Int.toNat (cO (aj (bi x n) x.parts.length 0 (m_,n))).2)).drop 0).length:Int) rfl gX (fun hb1 k_1 s_1 hlt1 _ hw hc=>⟨L0,ah _,?_⟩) (fun hb1 s_1 hc=>?_)
   ·exact bY (jl [0,1])
   ·exact bZ (jl [0,1])
 ·unfold ae Tryz.f99;try unfold ca
  exact cH (jl [0])
def qA (x:Deed)(n:Int)(m_:List (RegisterTitle×Int)):Unit:=()
noncomputable def gM:List SV->List Ob->Option HCon:=fQ (fun x_:Deed×Int×(List (RegisterTitle×Int)) =>[.os 0,.agg (cellsOf .deed x_.1),.v (.int .i64 x_.2.1)]) (fun x_=>[.mp .registerTitle .int x_.2.2 none]) (fun x_=>dW True (.tup []) [.mp .registerTitle .int x_.2.2 none])
@[go_sem] theorem xZ (x:Deed)(n:Int)(m_:List (RegisterTitle×Int)){p0_:Option (Nat×Option Tag.registerTitle.T)}(hp0_:p0_=none):gM ([.os 0,.agg [.v (.int .i64 x.no),.v (.int .i64 x.kind),.v (.int .i64 x.right),.v (.int .i64 x.since),.v (.int .i64 x.to),.rs .part x.parts,.v (.int .i64 x.of_),.v (.int .i64 x.at_),.v (.int .i64 x.known)],.v (.int .i64 n)]) ([.mp .registerTitle .int m_ p0_])=some (dW True (.tup []) [.mp .registerTitle .int m_ none]):=by
 subst hp0_;exact dZ (A:=fun x_:Deed×Int×(List (RegisterTitle×Int)) =>[.os 0,.agg (cellsOf .deed x_.1),.v (.int .i64 x_.2.1)]) (H:=fun x_=>[.mp .registerTitle .int x_.2.2 none]) (K:=fun x_=>dW True (.tup []) [.mp .registerTitle .int x_.2.2 none]) (x:=(x,n,m_))
theorem oT:FnOkO Tryz.prog 100 (gM):=by
 have hG:ConsOk Tryz.prog (mkG [] []):=av cg0 cg0;refine fO mixed al hG (fn:=Tryz.f100) (c:=ae Tryz.f100) kr kr kr kr fun l o con h=>?_;obtain⟨⟨x,n,m_⟩,rfl,rfl,rfl⟩:=cP h;clear h;try dsimp only
 refine⟨_,_,_,rfl,fun hp=>?_⟩;refine⟨nbl rfl,L0,?_,?_⟩
 ·unfold ae Tryz.f100;simp only[ak,and_self,true_and,and_true]
 ·unfold ae Tryz.f100;try unfold qA
  exact cH (jl [0])
end Go.Sx
end
section
namespace Go.Sx
def N0 {α:Type}:Result α->World
 | .ok _ w=>w
 | .halt _ w=>w
theorem Dm {α:Type}:∀ (a:Ask α) (w:World),w.drawn<=(w.ask a).2.drawn
 | .done a,w=>Nat.le_refl _
 | .ask what range k,w=>by
  unfold World.ask;dsimp only;split
  ·exact Dm _ w
  ·exact Nat.le_trans (Nat.le_succ _) (Dm _ { w with drawn:=w.drawn+1})
theorem N1 (w:World)(c:Sys):w.drawn<=(w.sys c).2.drawn:=by
 unfold World.sys;have:=Dm (Kernel.perform c w.os) w;split
 ·exact Nat.le_refl _
 ·rename_i h;rw[h]at this;exact this
theorem BN {p:Program}{w w':World}{a:Addr}{v:Value}{b:Bool}{l:List Addr}(h:w.farStore p a v b=.ok (w',l)):w'.drawn=w.drawn:=by
 unfold World.farStore at h;split at h
 ·split at h
  ·rename_i r hr;cases h;unfold World.viewStore at hr;simp only[bind,Except.bind,pure,Except.pure]at hr
   repeat' split at hr
   all_goals (first|(cases hr;done) |skip)
   all_goals (cases hr;rfl)
  ·cases h
 ·cases h
theorem Aj {α:Type}(p:Program):∀ (s:Sem α) (w:World),w.drawn<=(N0 (s.run p w)).drawn:=by
 intro s;induction s with
 |pure a=>intro w;exact Nat.le_refl _
 |load m a k ih=>
  intro w;unfold Sem.run;split
  ·exact ih _ w
  ·split
   ·exact ih _ w
   ·exact Nat.le_refl _
 |store m a v k ih=>
  intro w;cases v
  case agg=>exact Nat.le_refl _
  case tuple=>exact Nat.le_refl _
  all_goals
   simp only[Sem.run];split
   ·split
    ·exact Nat.le_refl _
    ·exact ih (w.setCell a _)
   ·split
    ·rename_i h;rw[<-BN h];exact ih _
    ·exact Nat.le_refl _
 |new o k ih=>intro w;exact ih w.heap.size { w with heap:=w.heap.push o}
 |shape r k ih=>intro w;exact ih _ _
 |freeze a n k ih=>
  intro w;have:(w.freeze a n).drawn=w.drawn:=by unfold World.freeze;split <;>rfl
  rw[<-this];exact ih _
 |frozen a k ih=>intro w;exact ih _ _
 |getObj r k ih=>
  intro w;unfold Sem.run;split
  ·exact Nat.le_refl _
  ·exact ih _ _
  ·exact Nat.le_refl _
 |setObj r o k ih=>
  intro w;unfold Sem.run;split
  ·exact Nat.le_refl _
  ·exact ih { w with heap:=w.heap.setIfInBounds r o}
  ·exact Nat.le_refl _
 |choose q k ih=>
  intro w;unfold Sem.run;split
  ·exact ih _ _
  ·exact Nat.le_trans (Nat.le_succ _) (ih _ { w with drawn:=w.drawn+1})
 |sys c k ih=>intro w;exact Nat.le_trans (N1 w c) (ih _ _)
 |program k ih=>intro w;exact ih _ _
 |mark m k ih=>intro w;exact ih _
 |halt h=>intro w;exact Nat.le_refl _
theorem If {α:Type}(p:Program):∀ (s:Sem α) (w:World) (es:Array Event),(s.runT p w es).1=s.run p w:=by
 intro s;induction s with
 |store m a v k ih=>
  intro w es;cases v
  case agg=>rfl
  case tuple=>rfl
  all_goals
   simp only[Sem.runT,Sem.run];split
   ·split
    ·rfl
    ·exact ih _ _
   ·split
    ·exact ih _ _
    ·rfl
 |load m a k ih=>
  intro w es;simp only[Sem.runT,Sem.run];split
  ·exact ih _ _ _
  ·split
   ·exact ih _ _ _
   ·rfl
 |getObj r k ih=>
  intro w es;simp only[Sem.runT,Sem.run];split
  ·rfl
  ·exact ih _ _ _
  ·rfl
 |setObj r o k ih=>
  intro w es;simp only[Sem.runT,Sem.run];split
  ·rfl
  ·exact ih _ _
  ·rfl
 |choose q k ih=>
  intro w es;simp only[Sem.runT,Sem.run];split
  ·exact ih _ _ _
  ·exact ih _ _ _
 |pure a=>intro w es;rfl
 |new o k ih=>intro w es;exact ih _ _ _
 |shape r k ih=>intro w es;exact ih _ _ _
 |freeze a n k ih=>intro w es;exact ih _ _
 |frozen a k ih=>intro w es;exact ih _ _ _
 |sys c k ih=>intro w es;exact ih _ _ _
 |program k ih=>intro w es;exact ih _ _ _
 |mark m k ih=>intro w es;exact ih _ _
 |halt h=>intro w es;rfl
theorem ic {α:Type}{p:Program}{s:Sem α}{w w':World}{a:α}(h:s.run p w=.ok a w'):w.drawn<=w'.drawn:=by have:=Aj p s w;rw[h]at this;exact this
theorem Ig {α:Type}{p:Program}{s:Sem α}{w w':World}{a:Halt}(h:s.run p w=.halt a w'):w.drawn<=w'.drawn:=by have:=Aj p s w;rw[h]at this;exact this
theorem mt {α:Type}{p:Program}{s:Sem α}{w:World}{es es':Array Event}{r:Result α}(h:s.runT p w es=(r,es')):w.drawn<=(N0 r).drawn:=by
 have:=If p s w es;rw[h]at this;have h2:=Aj p s w;rw[<-this]at h2;exact h2
def gLe (w:World):GStep->Prop
 | .ended .. =>True
 | .go _ w' _| .comm _ _ _ _ w' _| .spawn _ _ w' _| .count _ w' _| .timer _ _ w' _| .alone _ _ w' _| .newcoro _ _ _ w' _| .coroswitch _ _ _ w' _| .collect _ w' _| .watch _ w' _=>w.drawn<=w'.drawn
theorem gLe.after {w:World}{es:Array Event}{s:GStep}(h:gLe w s):gLe w (s.after es):=by cases s <;>exact h
theorem gLe.trans {w w':World}{s:GStep}(h1:w.drawn<=w'.drawn)(h:gLe w' s):gLe w s:=by cases s <;>first|trivial|exact Nat.le_trans h1 h
theorem sQ {c:Prop}[Decidable c]{w:World}{a b:GStep}(h1:gLe w a)(h2:gLe w b):gLe w (if c then a else b):=by split <;>assumption
theorem nD (fr:Frame)(m:String)(w:World):gLe w (endThrow fr m w):=Nat.le_refl _
theorem pN (p:Program)(fr:Frame)(v:Value)(w:World):gLe w (endPrinting p fr v w):=by
 unfold endPrinting;dsimp only;split
 ·exact nD _ _ _
 ·trivial
theorem uE (p:Program)(fr:Frame)(callers:List Frame)(dying:Option Dying)(m:String)(w:World):gLe w (endFatal p fr callers dying m w):=by
 unfold endFatal
 extract_lets
 split
 ·rename_i h;exact ic h
 ·trivial
 ·trivial
theorem Dn (p:Program)(fr:Frame)(d:Dying)(f:Fatal)(w:World):gLe w (writeOn p fr d f w):=by
 unfold writeOn
 extract_lets
 split
 ·trivial
 ·extract_lets
  generalize h:Sem.runT _ _ _ _=rr;obtain⟨r,es⟩:=rr;have h:=mt h;split
  ·rename_i e;cases e;exact h
  ·rename_i e;cases e;exact h
  ·trivial
  ·trivial
theorem Do (w w':World)(fd:Nat)(t:ByteArray)(o:Outcome):gLe w (endWith w' fd t o):=by
 unfold endWith
 extract_lets
 split
 ·split <;>trivial
 ·trivial
 ·trivial
theorem N2 (p:Program)(fr:Frame)(d:Dying)(w:World):gLe w (die p fr d w):=by
 unfold die;split
 ·exact Dn _ _ _ _ _
 ·split
  ·split
   ·exact Nat.le_refl _
   ·exact Do _ _ _ _ _
  ·extract_lets
   split
   ·exact Nat.le_refl _
   ·split
    ·rename_i h;exact ic h
    ·trivial
   ·split
    rename_i h;have h:=mt h;refine gLe.after ?_;split
    all_goals first|exact h|trivial|exact gLe.trans h (pN _ _ _ _)
   ·trivial
theorem pO (p:Program)(main:Bool)(fr:Frame)(callers:List Frame)(dying:Option Dying)(v:Value)(w:World):gLe w (doReturn p main fr callers dying v w):=by
 unfold doReturn;split
 ·split
  all_goals exact Nat.le_refl _
 ·split
  ·exact Nat.le_refl _
  ·trivial
  ·split
   ·exact Nat.le_refl _
   ·split
    ·exact Nat.le_refl _
    ·trivial
theorem uW (p:Program)(fr:Frame)(callers:List Frame)(dying:Option Dying)(d:Deferred)(w:World):gLe w (callDeferred p fr callers dying d w):=by
 unfold callDeferred;refine sQ trivial ?_;rcases h:(invoke d.target d.args).runT p w #[]with⟨r,es⟩;have h:=mt h;dsimp only;refine gLe.after ?_;split
 all_goals first|exact h|trivial|exact gLe.trans h (uE _ _ _ _ _ _) |exact gLe.trans h (nD _ _ _) |skip
 split <;>exact h
theorem FN (p:Program)(main:Bool)(fr:Frame)(callers:List Frame)(dying:Option Dying)(w:World):gLe w (unwind p main fr callers dying w):=by
 unfold unwind;split
 ·split
  rename_i h;have h:=mt h;refine gLe.after ?_;split
  ·exact h
  ·trivial
 ·exact uW _ _ _ _ _ _
 ·split
  ·trivial
  ·split
   ·trivial
   ·split
    ·exact Nat.le_refl _
    ·split
     ·split
      ·exact Nat.le_refl _
      ·split
       ·rename_i h;exact ic h
       ·trivial
       ·trivial
     ·split
      ·exact pN _ _ _ _
      ·trivial
  ·split
   ·exact pO _ _ _ _ _ _ _
   ·split
    rename_i h;have h:=mt h;refine gLe.after ?_;split
    ·exact gLe.trans h (pO _ _ _ _ _ _ _)
    ·trivial
    ·trivial
theorem Ih (p:Program)(fr:Frame)(callers:List Frame)(dying:Option Dying)(g:Nat)(w:World):gLe w (early p fr callers dying g w):=by
 unfold early
 extract_lets refuse notYet there
 have hn:∀ w0:World,w.drawn<=w0.drawn->gLe w (notYet w0):=fun w0 h0=>by
  show gLe w (match w0.heap[g]? with|some (.pending c elem) =>_|_=>_);split
  ·exact h0
  ·trivial
 split
 ·exact hn w (Nat.le_refl _)
 ·split
  ·trivial
  ·extract_lets there
   have ht:∀ w0:World,w.drawn<=w0.drawn->gLe w (there w0):=fun w0 h0=>h0;split
   ·exact hn w (Nat.le_refl _)
   ·split
    ·exact hn w (Nat.le_refl _)
    ·split
     ·trivial
     ·exact ht w (Nat.le_refl _)
     ·trivial
     ·exact hn w (Nat.le_refl _)
     ·split
      ·exact ht w (Nat.le_refl _)
      ·split
       ·exact hn w (Nat.le_refl _)
       ·split
        ·rename_i h;exact hn _ (ic h)
        ·rename_i h;exact ht _ (ic h)
        ·trivial
theorem pP (p:Program)(listen:Bool)(fr:Frame)(callers:List Frame)(dying:Option Dying)(s:Sem Next)(w:World):gLe w (Go.stepG.apply p listen fr callers dying s w):=by
 unfold Go.stepG.apply
 extract_lets go kind
 have hr:∃ r es,(if listen=true then s.runT p w #[]else(s.run p w,#[]))=(r,es)/\w.drawn<=(N0 r).drawn:=by
  split
  ·rcases h:s.runT p w #[]with⟨r,es⟩;exact⟨r,es,rfl,mt h⟩
  ·exact⟨_,_,rfl,Aj p s w⟩
 obtain⟨r,es,he,h⟩:=hr;rw[he];dsimp only;refine gLe.after ?_;have hgo:∀ fr w0,w.drawn<=w0.drawn->gLe w (go fr w0):=fun fr w0 h0=>h0;split
 all_goals first|exact h|trivial|exact hgo _ _ h|exact gLe.trans h (uE _ _ _ _ _ _) |exact gLe.trans h (nD _ _ _) |exact gLe.trans h (Ih _ _ _ _ _ _) |skip
 all_goals first|(refine sQ (gLe.trans h (nD _ _ _)) ?_;exact h) |(split <;>first|exact h|trivial|exact hgo _ _ h)
theorem KV (p:Program)(listen:Bool)(fr:Frame)(callers:List Frame)(dying:Option Dying)(w:World):gLe w (Go.stepG.oper p listen fr callers dying w):=by
 unfold Go.stepG.oper;split
 ·trivial
 ·split
  ·exact pP _ _ _ _ _ _ _
  ·exact pP _ _ _ _ _ _ _
theorem Et {α:Type}{w:World}{o:Option α}{a:GStep}{f:α->GStep}(h1:gLe w a)(h2:∀ x,gLe w (f x)):gLe w (o.elim a f):=by cases o;exact h1;exact h2 _
theorem KW (p:Program)(main listen:Bool)(fr:Frame)(callers:List Frame)(dying:Option Dying)(w:World):gLe w (Go.stepG.exec p main listen fr callers dying w):=by
 unfold Go.stepG.exec
 extract_lets go to lost leave
 have hgo:∀ fr w0,w.drawn<=w0.drawn->gLe w (go fr w0):=fun fr w0 h0=>h0;have hto:∀ k,gLe w (to k):=fun k=>Nat.le_refl _;have hlost:∀ m,gLe w (lost m):=fun _=>trivial;have hleave:∀ j,gLe w (leave j):=fun j=>by
  show gLe w (match fr.roundOf with|none=>_|some l=>_);split
  ·refine sQ (hgo _ _ (Nat.le_refl _)) trivial
  ·rcases h:(Instr.endRound _ j).runT p w #[]with⟨r,es⟩;have h:=mt h;dsimp only;refine gLe.after ?_;split
   ·exact gLe.trans h (pO _ _ _ _ _ _ _)
   ·trivial
 have hgo1:∀ fr,gLe w (go fr w):=fun fr=>Nat.le_refl _
 clear_value to lost leave
 split
 all_goals first|exact hleave _|exact hto _|exact hlost _|trivial|exact Et (hleave _) hto|exact pP _ _ _ _ _ _ _|exact Et (hlost _) (fun _=>pP _ _ _ _ _ _ _) |skip
 ·split
  ·exact hto _
  ·exact hlost _
 ·rcases h:(Instr.enterLoop fr.fn fr.tmps _ _ _ fr.roundOf).runT p w #[]with⟨r,es⟩;have h:=mt h;dsimp only;refine gLe.after ?_;split
  ·exact gLe.trans h (pP _ _ _ _ _ _ _)
  ·trivial
 ·rcases h:(Instr.endLoop _).runT p w #[]with⟨r,es⟩;have h:=mt h;dsimp only;refine gLe.after ?_;split
  ·exact hgo _ _ h
  ·exact hgo _ _ h
  ·trivial
 ·refine sQ (hto _) ?_;split
  ·rename_i h;exact hgo _ _ (ic h)
  ·trivial
 ·exact sQ (KV _ _ _ _ _ _) (hgo1 _)
theorem Ii (p:Program)(main:Bool)(g:Goroutine)(w:World)(listen:Bool):gLe w (Go.stepG p main g w listen):=by
 unfold Go.stepG;obtain⟨fr,callers,st,dying,off⟩:=g;dsimp only;split
 ·exact N2 _ _ _ _
 ·exact KW _ _ _ _ _ _ _
 ·exact FN _ _ _ _ _ _
def sLe (w:World):Stepped->Prop
 | .next m=>w.drawn<=m.world.drawn
 | .ended .. =>True
theorem sLe.trans {w w':World}{s:Stepped}(h1:w.drawn<=w'.drawn)(h:sLe w' s):sLe w s:=by cases s <;>first|trivial|exact Nat.le_trans h1 h
theorem Eu {c:Prop}[Decidable c]{w:World}{a b:Stepped}(h1:sLe w a)(h2:sLe w b):sLe w (if c then a else b):=by split <;>assumption
theorem Ev (p:Program)(gs:Array Goroutine)(rest:Rest)(w:World):sLe w (look p gs rest w):=by
 unfold look;split
 ·extract_lets
  refine Eu trivial ?_;split
  ·trivial
  ·extract_lets
   split
   ·rename_i h;have h:=ic h;exact h
   ·trivial
   ·trivial
 ·trivial
theorem Ak {rest:Rest}{cases:Array CommCase}{w w':World}(h:waitingAt rest cases w=some w'):w.drawn<=w'.drawn:=by
 unfold waitingAt at h;split at h
 ·split at h
  ·cases h;exact Nat.le_refl _
  ·cases h
 ·cases h;exact Nat.le_refl _
theorem xk (p:Program)(rest:Rest)(gs:Array Goroutine)(i:Nat)(g:Goroutine)(cases:Array CommCase)(bl:Bool)(shape:CommShape)(w:World):sLe w (communicate p rest gs i g cases bl shape w).1:=by
 unfold communicate
 extract_lets put illMade me other
 have hput:∀ g gs w0 ops,w.drawn<=w0.drawn->sLe w (put g gs w0 ops).1:=fun _ _ _ _ h=>h;split
 ·trivial
 ·split
  ·split
   ·split
    ·rename_i h;exact Ak h
    ·trivial
   ·exact hput _ _ _ _ (Nat.le_refl _)
  ·split
   ·trivial
   ·rename_i h;have hw:=ic h;clear h
    extract_lets r
    split
    ·split
     ·rename_i h2;exact hput _ _ _ _ (Nat.le_trans hw (Ig h2))
     ·trivial
    ·exact hput _ _ _ _ hw
    ·exact hput _ _ _ _ hw
    ·extract_lets
     split
     ·exact hput _ _ _ _ hw
     ·split
      ·rename_i h2;have h3:=ic h2;exact hput _ _ _ _ (Nat.le_trans hw h3)
      ·trivial
    ·exact hput _ _ _ _ hw
    ·exact hput _ _ _ _ hw
    ·trivial
theorem yZ (m:Machine)(k:Nat)(t:Timer)(a b:Nat):m.world.drawn<=(retime m k t a b).2.world.drawn:=by
 unfold retime drain;dsimp only
 repeat' split
 all_goals first|exact Nat.le_refl _|skip
 all_goals (simp_all;try omega)
theorem Dp {m m':Machine}{op:TimerOp}{v:Value}(h:timerOp m op=.ok (v,m')):m.world.drawn<=m'.world.drawn:=by
 have named:∀ (D:Nat) (m0:Machine) var f,(∀ k t,D<=(f k t).2.world.drawn)->timerOp.named m0 var f=.ok (v,m')->D<=m'.world.drawn:=fun D m0 var f hf h=>by
  unfold timerOp.named at h;split at h
  ·injection h with h;exact Nat.le_trans (hf _ _) (Nat.le_of_eq (congrArg (fun x:Value×Machine=>x.2.world.drawn) h))
  ·cases h
 unfold timerOp at h;split at h
 ·split at h
  ·cases h;exact Nat.le_refl _
  ·split at h
   ·split at h
    ·cases h
    ·cases h;exact Nat.le_refl _
   ·cases h
 ·exact named _ _ _ _ (fun k t=>yZ _ _ _ _ _) h
 ·split at h
  ·rename_i m1 ho;have h1:m.world.drawn<=m1.world.drawn:=by
    unfold timerOp.opened at ho;split at ho
    ·split at ho
     ·cases ho;exact Nat.le_refl _
     ·cases ho
    ·cases ho;exact Nat.le_refl _
   exact Nat.le_trans h1 (named m1.world.drawn _ _ _ (fun k t=>yZ _ _ _ _ _) h)
  ·cases h
 ·cases h;exact Nat.le_refl _
theorem Ij (p:Program)(m:Machine)(i:Nat)(listen:Bool):sLe m.world (Go.runT p m i listen).1:=by
 unfold Go.runT
 extract_lets rest world
 split
 extract_lets wake fn pos s ops done
 have hs:gLe m.world s:=Ii _ _ _ _ _;have hd:∀ r,(done r).1=r:=fun r=>rfl
 clear_value s done
 split
 all_goals try rw[hd]
 ·trivial
 ·split
  rename_i h;have:=xk p rest ‹_› i ‹_› ‹_› ‹_› ‹_› ‹_›;rw[h]at this;exact sLe.trans hs this
 ·exact hs
 ·exact hs
 ·exact Eu trivial hs
 ·exact hs
 ·exact sLe.trans hs (Ev _ _ _ _)
 ·exact hs
 ·exact hs
 ·split
  ·exact hs
  ·split
   ·rename_i h;simp only[endThrow,dieOf]at h;cases h;exact hs
   ·trivial
  ·trivial
 ·split
  ·rename_i h;exact Nat.le_trans hs (Dp h)
  ·exact hs
  ·trivial
  ·trivial
theorem Ik (p:Program)(m:Machine)(k:Nat):sLe m.world (serve p m k):=by
 unfold serve;split
 ·trivial
 ·exact Nat.le_refl _
 ·extract_lets
  split
  ·trivial
  ·exact Nat.le_refl _
def mLe (w:World):Move->Prop
 | .goroutine m _=>w.drawn<=m.world.drawn
 | .machine s _=>sLe w s
theorem mLe.trans {w w':World}{s:Move}(h1:w.drawn<=w'.drawn)(h:mLe w' s):mLe w s:=by
 cases s
 ·exact Nat.le_trans h1 h
 ·exact sLe.trans h1 h
theorem xl (p:Program)(m:Machine):mLe m.world (askOn p m):=by
 unfold askOn
 extract_lets mono rs ds pick
 have hpick:∀ m0:Machine,m.world.drawn<=m0.world.drawn->mLe m.world (pick m0):=fun m0 h0=>by
  show mLe m.world (match (choose (.sched rs.length)).run p m0.world with| .halt _ w=>_| .ok k world=>_);split
  ·trivial
  ·rename_i h;have h1:=ic h;split
   ·exact Nat.le_trans h0 h1
   ·split
    ·trivial
    ·rename_i h2;have h2:=ic h2;exact Nat.le_trans h0 (Nat.le_trans h1 h2)
 clear_value pick rs ds
 split
 ·trivial
 ·rename_i h;have hw:=ic h;clear h
  extract_lets m1
  split
  ·exact sLe.trans hw (Ik p _ _)
  ·cases rs with
   |nil=>
    dsimp only;split
    ·exact hw
    ·split
     ·exact hw
     ·split <;>trivial
   |cons r rs=>
    dsimp only;split
    ·exact hpick _ hw
    ·split
     ·trivial
     ·rename_i h;have h2:=ic h;exact hpick _ (Nat.le_trans hw h2)
     ·rename_i h;have h2:=ic h;exact Nat.le_trans hw h2
     ·rename_i h;have h2:=ic h;exact hpick _ (Nat.le_trans hw h2)
theorem BO (p:Program)(m:Machine):mLe m.world (ask p m):=by
 unfold ask;split
 ·split
  ·trivial
  ·rename_i h;have hw:=ic h;have:=Ev p m.gs m.rest ‹World›;split
   ·rename_i m2 h2;rw[h2]at this;exact mLe.trans (Nat.le_trans hw this) (xl p _)
   ·rename_i e h2;exact sLe.trans hw this
  ·rename_i h;have hw:=ic h;exact mLe.trans hw (xl p _)
 ·exact xl p m
theorem KX (p:Program)(m:Machine):mLe m.world (move p m):=by
 unfold move;split
 ·split
  ·exact Nat.le_refl _
  ·trivial
 ·split
  ·split
   ·exact Nat.le_refl _
   ·exact BO p _
  ·exact BO p m
theorem KY (p:Program)(m:Machine):sLe m.world (step p m):=by
 unfold step stepT;have:=KX p m;split
 ·rename_i h;rw[h]at this;exact sLe.trans this (Ij p _ _ _)
 ·rename_i h;rw[h]at this;exact this
theorem BP {p:Program}{m m':Machine}(h:Steps p m m'):m.world.drawn<=m'.world.drawn:=by
 obtain⟨n,hn⟩:=h;induction n generalizing m with
 |zero=>simp only[runN,Stepped.next.injEq]at hn;subst hn;exact Nat.le_refl _
 |succ n ih=>
  simp only[runN]at hn;have:=KY p m;cases hs:step p m with
  |next m1=>
   rw[hs]at hn this;exact Nat.le_trans this (ih hn)
  |ended o w=>rw[hs]at hn;cases hn
theorem BQ {P:Program}{f:FuncId}{args:Array Value}{w:World}{R:Ending->World->Prop}(h:Calls P f args w R):Calls P f args w fun e w'=>R e w'/\(e≠ .outgrown->w.drawn<=w'.drawn):=by
 intro cs;obtain⟨e,w',fr,hr,hc,hf,hl⟩:=h cs;refine⟨e,w',fr,⟨hr,fun hne=>?_⟩,hc,hf,hl⟩;cases e with
 |returned v=>exact BP (p:=P) hc
 |panicked c=>exact BP (p:=P) hc
 |outgrown=>exact absurd rfl hne
end Go.Sx
end
section
namespace Go.Sx
open Go.Lib Go.Proofs Go.RowKit Go.Shelf Go.Sort
def L1:SV->Value
 | .v x=>x
 |_=>undef
def l6 (k:Tag)(x:k.T):List Value:=(cellsOf k x).map L1
def xm (k:Tag):Prop:= ∀ (x:k.T) (s:SV),s∈cellsOf k x->∃ v,s=.v v/\v.oneCell'=true
def srt {α:Type}(cf:α->α->Int)(l:List α):List α:=l.mergeSort fun x y=>!(ltOf cf y x)
def apart {α:Type}(cf:α->α->Int)(l:List α):Prop:= ∀ x∈l,∀ y∈l,ltOf cf x y=false->ltOf cf y x=false->x=y
theorem Dq {α:Type}[Inhabited α]{cf:α->α->Int}(hO:SWO (ltOf cf)){l:List α}(h:apart cf l){d':Array α}(hp:PermIn 0 l.toArray.size l.toArray d')(hs:SortedIn (ltOf cf) 0 l.toArray.size d'):d'=(srt cf l).toArray:=by
 obtain⟨hsz,_,hperm⟩:=hp;have e1:d'.extract 0 l.toArray.size=d':=by rw[<-hsz];exact Array.extract_size
 rw[e1,Array.extract_size]at hperm;have hperm:d'.toList.Perm l:=by simpa using hperm
 have:d'.toList=srt cf l:=by
  refine List.Perm.eq_of_pairwise (le:=fun x y=>(!ltOf cf y x)=true) ?_ ?_ ?_ (hperm.trans (List.mergeSort_perm _ _).symm)
  ·intro a b ha hb h1 h2;simp only[Bool.not_eq_true']at h1 h2;exact h a (hperm.subset ha) b ((List.mergeSort_perm _ _).subset hb) h2 h1
  ·rw[List.pairwise_iff_getElem];intro i j hi hj hij;have:=hs i j (Nat.zero_le _) hij (by simp only[List.size_toArray]at hsz |-;simp only[Array.length_toList]at hj;omega);simp only[Array.length_toList]at hi hj;rw[getElem!_pos d' i hi,getElem!_pos d' j hj]at this;simpa using this
  ·refine List.pairwise_mergeSort (fun a b c h1 h2=>?_) (fun a b=>?_) l
   ·simp only[Bool.not_eq_true']at h1 h2 |-;exact hO.ntrans c b a h2 h1
   ·simp only[Bool.or_eq_true,Bool.not_eq_true'];cases h1:ltOf cf b a with
    |false=>exact .inl rfl
    |true=>
     right;cases h2:ltOf cf a b with
     |false=>rfl
     |true=>
      have h3:=hO.trans a b a h2 h1;rw[hO.irrefl]at h3;cases h3
 rw[<-this]
section
variable {P:Program}{ρ:Ren}{F:Nat->Prop}{own:Own}{w:World}{k:Tag}
theorem y3 (hk:xm k){l:List k.T}{o:Nat}{cs:Array Value}(h:RowAt F own w k l o cs){i j:Nat}(hi:i<l.length)(hj:j<aa k):cs[o+i*aa k+j]? =(l6 k l[i])[j]?:=by
 have e1:=List.getElem?_eq_getElem hi;have hlen:j< (cellsOf k l[i]).length:=by rw[aW];exact hj
 have e2:=List.getElem?_eq_getElem hlen;obtain⟨u,h1,h2⟩:=h i _ e1 j _ e2;obtain⟨v,h3,_⟩:=hk l[i] _ (List.getElem_mem hlen);rw[h1];unfold l6;rw[List.getElem?_map,e2];rw[h3]at h2 |-;rw[bv h2];rfl
theorem y4 (hk:xm k){l:List k.T}{o:Nat}{cs:Array Value}(h:∀ i j,(hi:i<l.length)->j<aa k->cs[o+i*aa k+j]? =(l6 k l[i])[j]?):RowAt F own w k l o cs:=by
 intro i x hi j s hj;obtain⟨hl,rfl⟩:=List.getElem?_eq_some_iff.1 hi;have hlen:=(List.getElem?_eq_some_iff.1 hj).1;rw[aW]at hlen;have:=h i j hl hlen;unfold l6 at this;rw[List.getElem?_map,hj]at this;obtain⟨v,h3,_⟩:=hk _ s (List.mem_of_getElem? hj);subst h3;exact⟨v,this,.v v⟩
theorem KZ {w w':World}(hb:Go.RowKit.Below w.heap.size w w')(hd:w.drawn<=w'.drawn):∃ q os,w'=grow (w.drewN q) os:=by
 refine⟨w'.drawn - w.drawn,w'.heap.extract w.heap.size w'.heap.size,?_⟩;obtain⟨h1,h2,h3,h4,h5⟩:=hb;obtain⟨heap,tape,drawn,os,output⟩:=w;obtain⟨heap',tape',drawn',os',output'⟩:=w';simp only at h1 h2 h3 h4 h5 hd;subst h1;subst h2;subst h3;unfold grow World.drewN;simp only[World.mk.injEq,true_and,and_true];refine⟨?_,by omega⟩;apply Array.ext
 ·simp;omega
 ·intro i hi1 hi2;by_cases hi:i<heap.size
  ·rw[Array.getElem_append_left hi];have:=h5 i hi;rw[Array.getElem?_eq_getElem hi1,Array.getElem?_eq_getElem hi]at this;exact Option.some.inj this
  ·rw[Array.getElem_append_right (by omega)];simp only[Array.getElem_extract];congr 1;omega
end
open Classical in
noncomputable def mU (k:Tag)(g:FuncId)(caps:List SV)(cf:k.T->k.T->Int):List SV->List Ob->Option HCon:=fun l h=>
 KH k (fun l0=>if l=[.os 0,.fn g [] caps]then some (dW (apart cf l0) (.tup []) [.row k (srt cf l0)])else none) h
@[go_sem] theorem x4 {k:Tag}{g:FuncId}{caps:List SV}{cf:k.T->k.T->Int}{l0:List k.T}:mU k g caps cf [.os 0,.fn g [] caps] [.row k l0]=some (dW (apart cf l0) (.tup []) [.row k (srt cf l0)]):=by
 simp[mU,KH]
section
variable {P:Program}{ρ:Ren}{k:Tag}
theorem Il {w:World}{b:Nat}{cs:Array Value}{ty:TypeId}(hb:w.heap[b]? =some (.cells cs ty (0,0)))(D:Array Value)(o:Nat):(putRow id w b o D).heap[b]? =some (.cells (putCells id o D cs) ty (0,0)):=by
 unfold putRow mapBlock;simp only[Array.getElem?_modify,if_true,hb];rfl
theorem BR {w:World}{b c:Nat}(hc:c≠b)(D:Array Value)(o:Nat):(putRow id w b o D).heap[c]? =w.heap[c]?:=by
 unfold putRow mapBlock;simp only[Array.getElem?_modify];rw[if_neg (fun e=>hc e.symm)]
theorem Al {D cs:Array Value}{o t:Nat}(ht:t<D.size)(hs:o+t<cs.size):(putCells id o D cs)[o+t]? =D[t]?:=by
 unfold putCells;rw[Array.getElem?_mapIdx,Array.getElem?_eq_getElem hs];simp only[Option.map_some];rw[if_pos (by omega),Array.getElem?_eq_getElem ht];have:o+t - o=t:=by omega
 rw[this,getElem!_pos D t ht];rfl
theorem BS {α:Type}[Inhabited α]{enc:α->List Value}{n:Nat}(hn:∀ x,(enc x).length=n){d:Array α}{i j:Nat}(hi:i<d.size)(hj:j<n):(flatK enc n d)[i*n+j]? =(enc d[i]!)[j]?:=by
 have hlt:i*n+j<d.size*n:=by
  have:=Nat.mul_le_mul_right n (show i+1<=d.size from hi);rw[Nat.succ_mul]at this;omega
 have h1:i*n+j< (flatK enc n d).size:=by rw[size_flatK];exact hlt
 rw[Array.getElem?_eq_getElem h1,<-getElem!_pos (flatK enc n d) _ h1,get_flatK enc n d _ hlt];have hd:(i*n+j) / n=i:=by
  rw[Nat.mul_comm,Nat.mul_add_div (by omega),Nat.div_eq_of_lt hj];omega
 have hm:(i*n+j) % n=j:=by
  rw[Nat.mul_comm,Nat.mul_add_mod,Nat.mod_eq_of_lt hj]
 rw[hd,hm];have hj':j< (enc d[i]!).length:=by rw[hn];exact hj
 rw[List.getElem?_eq_getElem hj',getElem!_pos (enc d[i]!) j hj']
theorem sw_b {α:Type}[Inhabited α]{enc:α->List Value}{n b o m:Nat}{w:World}{cs:Array Value}{ty:TypeId}(hb:w.heap[b]? =some (.cells cs ty (0,0)))(d:Array α)(os:Array Obj):(sortWorldK enc n w b o m d os).heap[b]? =some (.cells (putCells id o (flatK enc n d) cs) ty (0,0)):=by
 have hlt:b<w.heap.size:=(Array.getElem?_eq_some_iff.1 hb).1;unfold sortWorldK grow;simp only;rw[Array.getElem?_append_left (by unfold putRowK putRow mapBlock Sort.ahead;simpa using hlt)];exact Il (w:=Sort.ahead w m) hb _ _
theorem L2 {α:Type}[Inhabited α]{enc:α->List Value}{n b o m c:Nat}{w:World}(hc:c<w.heap.size)(hne:c≠b)(d:Array α)(os:Array Obj):(sortWorldK enc n w b o m d os).heap[c]? =w.heap[c]?:=by
 unfold sortWorldK grow;simp only;rw[Array.getElem?_append_left (by unfold putRowK putRow mapBlock Sort.ahead;simpa using hc)];exact BR (w:=Sort.ahead w m) hne _ _
theorem Am {α:Type}[Inhabited α]{enc:α->List Value}{n b o m:Nat}{w:World}(d:Array α)(os:Array Obj):w.heap.size<=(sortWorldK enc n w b o m d os).heap.size:=by
 unfold sortWorldK grow putRowK putRow mapBlock Sort.ahead;simp
theorem BT (L:SlLaysF0.n6 P ρ)(aE:∀ w,(isAgg (ρ.t 24)).run P w=.ok true w)(zE:∀ w,(Go.sizeOf (ρ.t 24)).run P w=.ok (aa k) w)(hk:xm k)(h0:0<aa k){g:FuncId}{caps:List SV}{C:List SV->Option Con}(hC:FnOk P g C){cf:k.T->k.T->Int}
  (hcf:∀ x y,C (.agg (cellsOf k x):: .agg (cellsOf k y)::caps)=some (.det True (.v (.int .i64 (cf x y))))) (hO:SWO (ltOf cf)) (hpf:∀ s∈caps,PF s) (hcf0:∃ x y,C (.agg (cellsOf k x):: .agg (cellsOf k y)::caps)=some (.det True (.v (.int .i64 (cf x y))))):FnOkO P (ρ.f 6) (mU k g caps cf):=by
 haveI:Inhabited k.T:=⟨dA k⟩
 refine⟨fun l h c hc args w=>L.f6.enters rfl args w,fun l h c hc hp F own w vs hHp hvs=>?_⟩;unfold mU at hc;obtain⟨l0,hh,hK⟩:=HS hc;clear hc;subst hh;by_cases hl:l=[.os 0,.fn g [] caps]
 rotate_left
 ·rw[if_neg hl]at hK;cases hK
 rw[if_pos hl]at hK;subst hl;cases hK;have hp:apart cf l0:=hp;obtain⟨hsz,hrel⟩:=hvs;have r0:=hrel 0 _ rfl;have r1:=hrel 1 _ rfl;have hvs2:vs= #[vs.getD 0 undef,vs.getD 1 undef]:=by
  apply Array.ext
  ·simpa using hsz
  ·intro i h1 h2;simp only[List.length_cons,List.length_nil]at hsz;match i,h1,h2 with
   |0,h1,_=>simp[Array.getD,h1]
   |1,h1,_=>simp[Array.getD,h1]
   |i+2,h1,_=>omega
 generalize vs.getD 0 undef=v0 at r0 hvs2;generalize vs.getD 1 undef=v1 at r1 hvs2;subst hvs2;obtain⟨hd,o0,rfl,_⟩:=d8 r0;obtain⟨hd',o0',hrow⟩:=hHp.at (id:=0) (o:=.row k l0) rfl rfl;rw[o0]at o0';cases o0';have hrow:RowRel F own w k l0 hd.v hd.bs:=hrow;cases r1 with
 | @fn _ _ _ us cs s1 s2 c1 c2=>
 have hus:us= #[]:=Array.eq_empty_of_size_eq_zero (by simpa using s1);subst hus;rcases hrow with⟨a,e1,rfl,e2⟩ | ⟨b,o,cap,cells,ty,e1,e2,e3,e4,e5,e6,e7⟩
 ·rw[e1];refine(AnyF.slices_SortFunc_none L a 0 _ w).mono fun e w' he=>?_;obtain⟨rfl,rfl⟩:=he;refine⟨(),own,trivial,⟨_,rfl,.tup rfl fun j s hj=>by simp at hj⟩,?_,Fr.refl _,Nat.le_refl _⟩;have:srt cf ([]:List k.T)=[]:=by simp[srt]
  rw[this];exact hHp
 ·have hbown:b∈hd.bs:=by rw[e2];simp
  have hbw:b<w.heap.size:=hHp.lt 0 hd b o0 hbown;have hkl:∀ x:k.T,(l6 k x).length=aa k:=fun x=>by unfold l6;rw[List.length_map,aW]
  have hone:∀ x:k.T,∀ v∈l6 k x,v.oneCell'=true:=fun x v hv=>by
   unfold l6 at hv;rw[List.mem_map]at hv;obtain⟨s,hs,rfl⟩:=hv;obtain⟨v,rfl,h1⟩:=hk x s hs;exact h1
  have eg:∀ args w,(callFunc g args).run P w=.ok (.enter g args) w:=fun args w=>by
   obtain⟨x,y,hxy⟩:=hcf0;exact hC.enter _ _ hxy args w
  have hown:∀ id h2,own id=some h2->id=0:=fun id h2 e=>by have:=hHp.dom id h2 e;simpa using this
  have hH:HoldsK (l6 k) (aa k) w b o l0.toArray:=by
   intro t ht;rw[size_flatK]at ht;simp only[List.size_toArray]at ht;have hi:t / aa k<l0.length:=Nat.div_lt_of_lt_mul (by rw[Nat.mul_comm];exact ht);have hj:=Nat.mod_lt t h0;have ht':t=t / aa k*aa k+t % aa k:=(Nat.div_add_mod' t _).symm;have q1:=y3 hk e7 hi hj;have q2:=BS (enc:=l6 k) hkl (d:=l0.toArray) (i:=t / aa k) (j:=t % aa k) (by simpa using hi) hj;rw[<-ht']at q2;rw[Nat.add_assoc,<-ht']at q1;have hl0:l0.toArray[t / aa k]! =l0[t / aa k]:=by rw[getElem!_pos l0.toArray _ (by simpa using hi)];rfl
   rw[hl0]at q2;have hlt:t< (flatK (l6 k) (aa k) l0.toArray).size:=by rw[size_flatK];simpa using ht
   constructor
   ·unfold World.cell?;rw[e3];dsimp only;rw[q1,<-q2,Array.getElem?_eq_getElem hlt,getElem!_pos _ t hlt];rfl
   ·unfold World.frozen?;rw[e3];simp
  have hcmp:CmpLays P g cs (l6 k) (aa k) cf b o l0.toArray.size w:=by
   intro m os dk hdk x y;generalize hW:sortWorldK (l6 k) (aa k) w b o m dk os=W;have hcar:Carries F own w F own W:=⟨fun _ h2 e=>⟨h2,e,.refl _⟩,fun c hc hn=>⟨hn,by
    rw[<-hW];exact L2 hc (fun e=>hn (.inr ⟨0,hd,o0,e▸hbown⟩)) _ _⟩⟩
   have henc:∀ z:k.T,Rel (fun _=>False) ce W (.agg (cellsOf k z)) (.agg (l6 k z).toArray):=fun z=>by
    refine .agg (by simp[l6]) fun j s hj=>?_;obtain⟨v,rfl,_⟩:=hk z s (List.mem_of_getElem? hj);have:(l6 k z).toArray.getD j undef=v:=by
     unfold l6;rw[Array.getD_eq_getD_getElem?,List.getElem?_toArray,List.getElem?_map,hj];rfl
    rw[this];exact .v v
   have hcall:=BQ (hC.calls _ _ (hcf x y) trivial (fun _=>False) W (#[.agg (l6 k x).toArray,.agg (l6 k y).toArray]++cs) (fun _ h=>h.elim) ⟨by simp[c1];omega,fun j s hj=>by
    match j,hj with
    |0,hj=>
     cases hj;rw[Array.getD_eq_getD_getElem?,Array.getElem?_append_left (by simp)];exact henc x
    |1,hj=>
     cases hj;rw[Array.getD_eq_getD_getElem?,Array.getElem?_append_left (by simp)];exact henc y
    |j+2,hj=>
     have hj:caps[j]? =some s:=hj;have:=((c2 j s hj).carry hcar).over (hpf s (List.mem_of_getElem? hj)) (F':=fun _=>False) (own':=ce) fun _ _ h=>by
      rcases h with h| ⟨_,_,h,_⟩
      ·exact h
      ·cases h
     have e:(#[Value.agg (l6 k x).toArray,.agg (l6 k y).toArray]++cs).getD (j+2) undef=cs.getD j undef:=by
      rw[Array.getD_eq_getD_getElem?,Array.getD_eq_getD_getElem?,Array.getElem?_append_right (by simp)];simp
     rw[e];exact this⟩)
   refine hcall.mono fun e w' hq=>?_;obtain⟨he,hdr⟩:=hq;rcases he with⟨s,u,own',hs,rfl,hh,hb⟩ | ⟨z,hz,_⟩
   ·simp only[cS]at hs;subst hs;have:=hh.val;simp only[pu]at this;rw[bv this];exact⟨rfl,KZ hb (hdr (by simp))⟩
   ·exact hz.elim
  have hall:=AnyQ.slices_SortFunc L (aa k) aE zE (l6 k) hkl hone cf hO g cs b o cap l0.toArray w eg hcmp hH hbw (by unfold bb at e6;simp only[List.size_toArray];omega);rw[e1];refine hall.mono fun e w' he=>?_;obtain⟨rfl,d',n,os,hpm,hst,rfl⟩:=he;have hd':=Dq hO hp hpm hst;subst hd';have hlS:(srt cf l0).length=l0.length:=List.length_mergeSort _;generalize srt cf l0=lS at hlS;have hsb:=sw_b (enc:=l6 k) (n:=aa k) (o:=o) (m:=n) e3 lS.toArray os;refine⟨(),own,trivial,⟨_,rfl,.tup rfl fun j s hj=>by simp at hj⟩,?_,?_,Nat.le_refl _⟩
  ·refine⟨hHp.dom,fun c hc=>Nat.lt_of_lt_of_le (hHp.foreign c hc) (Am _ _),hHp.apart,hHp.inj,fun i h2 c e hc=>Nat.lt_of_lt_of_le (hHp.lt i h2 c e hc) (Am _ _),fun i hi=>?_⟩;match i,hi with
   |0,_=>
    refine⟨hd,o0,?_⟩;show RowRel F own _ k lS hd.v hd.bs;refine .inr ⟨b,o,cap,_,ty,by rw[hlS];exact e1,e2,hsb,?_,by omega,by omega,y4 hk fun i j hi hj=>?_⟩
    ·unfold putCells;simpa using e4
    ·have hlt:i*aa k+j< (flatK (l6 k) (aa k) lS.toArray).size:=by
      rw[size_flatK];have:=Nat.mul_le_mul_right (aa k) (show i+1<=lS.length from hi);rw[Nat.succ_mul]at this;simp only[List.size_toArray];omega
     have hle:o+(i*aa k+j) <cells.size:=by
      rw[size_flatK]at hlt;simp only[List.size_toArray]at hlt;have:=Nat.mul_le_mul_right (aa k) (show lS.length<=cap by omega);omega
     rw[Nat.add_assoc,Al hlt hle,BS hkl (by simpa using hi) hj];have:lS.toArray[i]! =lS[i]:=by rw[getElem!_pos lS.toArray _ (by simpa using hi)];rfl
     rw[this]
   |i+1,hi=>rw[iR (by simp)]at hi;cases hi
  ·refine⟨fun _ h2 e=>⟨h2,e,.refl _⟩,(Fr.refl { w:=w,own:=own}).base,rfl,rfl,rfl,Am _ _,fun c hc=>?_⟩;exact L2 hc.1 (fun e=>hc.2 ⟨0,hd,o0,e▸hbown⟩) _ _
end
def sR (l:List Int):List Int:=l.mergeSort fun x y=>decide (x<=y)
noncomputable def An:List SV->List Ob->Option HCon:=fQ (fun x_:List Int=>[.os 0]) (fun x_=>[.row .int x_]) (fun x_=>dW True (.tup []) [.row .int (sR x_)])
@[go_sem] theorem Qk (l_:List Int):An ([.os 0]) ([.row .int l_])=some (dW True (.tup []) [.row .int (sR l_)]):=dZ (A:=fun x_:List Int=>[.os 0]) (H:=fun x_=>[.row .int x_]) (K:=fun x_=>dW True (.tup []) [.row .int (sR x_)]) (x:=l_)
section
variable {P:Program}{ρ:Ren}
theorem Sl {enc:Int->Value}{w:World}{b:Nat}{cs:Array Value}{ty:TypeId}(hb:w.heap[b]? =some (.cells cs ty (0,0)))(D:Array Int)(o:Nat):(putRow enc w b o D).heap[b]? =some (.cells (putCells enc o D cs) ty (0,0)):=by
 unfold putRow mapBlock;simp only[Array.getElem?_modify,if_true,hb];rfl
theorem N3 {enc:Int->Value}{w:World}{b c:Nat}(hc:c≠b)(D:Array Int)(o:Nat):(putRow enc w b o D).heap[c]? =w.heap[c]?:=by
 unfold putRow mapBlock;simp only[Array.getElem?_modify];rw[if_neg (fun e=>hc e.symm)]
theorem Im {enc:Int->Value}{D:Array Int}{cs:Array Value}{o t:Nat}(ht:t<D.size)(hs:o+t<cs.size):(putCells enc o D cs)[o+t]? =some (enc D[t]):=by
 unfold putCells;rw[Array.getElem?_mapIdx,Array.getElem?_eq_getElem hs];simp only[Option.map_some];rw[if_pos (by omega)];have:o+t - o=t:=by omega
 rw[this,getElem!_pos D t ht]
theorem gp_b {enc:Int->Value}{b o m:Nat}{w:World}{cs:Array Value}{ty:TypeId}(hb:w.heap[b]? =some (.cells cs ty (0,0)))(d:Array Int)(os:Array Obj):(grow (putRow enc (Sort.ahead w m) b o d) os).heap[b]? =some (.cells (putCells enc o d cs) ty (0,0)):=by
 have hlt:b<w.heap.size:=(Array.getElem?_eq_some_iff.1 hb).1;unfold grow;simp only;rw[Array.getElem?_append_left (by unfold putRow mapBlock Sort.ahead;simpa using hlt)];exact Sl (w:=Sort.ahead w m) hb _ _
theorem Sm {enc:Int->Value}{b o m c:Nat}{w:World}(hc:c<w.heap.size)(hne:c≠b)(d:Array Int)(os:Array Obj):(grow (putRow enc (Sort.ahead w m) b o d) os).heap[c]? =w.heap[c]?:=by
 unfold grow;simp only;rw[Array.getElem?_append_left (by unfold putRow mapBlock Sort.ahead;simpa using hc)];exact N3 (w:=Sort.ahead w m) hne _ _
theorem Ao {enc:Int->Value}{b o m:Nat}{w:World}(d:Array Int)(os:Array Obj):w.heap.size<=(grow (putRow enc (Sort.ahead w m) b o d) os).heap.size:=by
 unfold grow putRow mapBlock Sort.ahead;simp
theorem y5:xm .int:=by
 intro x s hs;have:s=.v (.int .i64 x):=by simpa[cellsOf]using hs
 exact⟨_,this,rfl⟩
theorem Dt (L:SlLaysM.n5 P ρ):FnOkO P (ρ.f 5) An:=by
 refine⟨fun l h c hc args w=>L.f5.enters rfl args w,fun l h c hc hp F own w vs hHp hvs=>?_⟩;obtain⟨l0,rfl,rfl,rfl⟩:=cP hc;clear hc;obtain⟨hsz,hrel⟩:=hvs;have r0:=hrel 0 _ rfl;have hvs2:vs= #[vs.getD 0 undef]:=by
  apply Array.ext
  ·simpa using hsz
  ·intro i h1 h2;simp only[List.length_cons,List.length_nil]at hsz;match i,h1,h2 with
   |0,h1,_=>simp[Array.getD,h1]
   |i+1,h1,_=>omega
 generalize vs.getD 0 undef=v0 at r0 hvs2;subst hvs2;obtain⟨hd,o0,rfl,_⟩:=d8 r0;obtain⟨hd',o0',hrow⟩:=hHp.at (id:=0) (o:=.row .int l0) rfl rfl;rw[o0]at o0';cases o0';have hrow:RowRel F own w .int l0 hd.v hd.bs:=hrow;rcases hrow with⟨a,e1,rfl,e2⟩ | ⟨b,o,cap,cells,ty,e1,e2,e3,e4,e5,e6,e7⟩
 ·rw[e1];refine(AnyM.slices_Sort_int_none L a 0 w).mono fun e w' he=>?_;obtain⟨rfl,rfl⟩:=he;refine⟨(),own,trivial,⟨_,rfl,.tup rfl fun j s hj=>by simp at hj⟩,?_,Fr.refl _,Nat.le_refl _⟩;have:sR ([]:List Int)=[]:=by simp[sR]
  show Hp F own w' [.row .int (sR [])];rw[this];exact hHp
 ·have hbown:b∈hd.bs:=by rw[e2];simp
  have hbw:b<w.heap.size:=hHp.lt 0 hd b o0 hbown;have hH:Holds (Value.int .i64) w b o (l0:List Int).toArray:=by
   intro t ht;simp only[List.size_toArray]at ht;have q1:=y3 y5 e7 (i:=t) (j:=0) ht (by decide);have e0:aa .int=1:=rfl;rw[e0,Nat.mul_one,Nat.add_zero]at q1;constructor
   ·unfold World.cell?;rw[e3];dsimp only;rw[q1,getElem!_pos _ t (by simpa using ht)];rfl
   ·unfold World.frozen?;rw[e3];simp
  have hlen:l0.length<4611686018427387904:=by unfold bb at e6;omega
  have hall:=AnyM.slices_Sort_int L b o cap l0 w hH hbw hlen;rw[e1];refine hall.mono fun e w' he=>?_;obtain⟨rfl,n,os,rfl⟩:=he;have hlS:(sR l0).length=l0.length:=List.length_mergeSort _;show ∃ r own',_/\zH F w own 1 (.returned (.tuple #[])) own' (grow (putRow (Value.int .i64) (Sort.ahead w n) b o (sR l0).toArray) os) (.ret (.tup []) [.row .int (sR l0)]);generalize sR l0=lS at hlS;have hsb:=gp_b (enc:=Value.int .i64) (o:=o) (m:=n) e3 lS.toArray os;refine⟨(),own,trivial,⟨_,rfl,.tup rfl fun j s hj=>by simp at hj⟩,?_,?_,Nat.le_refl _⟩
  ·refine⟨hHp.dom,fun c hc=>Nat.lt_of_lt_of_le (hHp.foreign c hc) (Ao _ _),hHp.apart,hHp.inj,fun i h2 c e hc=>Nat.lt_of_lt_of_le (hHp.lt i h2 c e hc) (Ao _ _),fun i hi=>?_⟩;match i,hi with
   |0,_=>
    refine⟨hd,o0,?_⟩;show RowRel F own _ .int lS hd.v hd.bs;have hc1:aa .int=1:=rfl;refine .inr ⟨b,o,cap,_,ty,by rw[hlS];exact e1,e2,hsb,?_,by omega,by omega,y4 y5 fun i j hi hj=>?_⟩
    ·unfold putCells;simpa using e4
    ·rw[hc1]at hj |-;have hj0:j=0:=by omega
     subst hj0;rw[Nat.mul_one,Nat.add_zero,Im (by simpa using hi) (by have h9:aa .int=1:=rfl;simp only[h9,Nat.mul_one]at e4 e5;omega)];simp[l6,cellsOf,L1]
   |i+1,hi=>rw[iR (by simp)]at hi;cases hi
  ·refine⟨fun _ h2 e=>⟨h2,e,.refl _⟩,(Fr.refl { w:=w,own:=own}).base,rfl,rfl,rfl,Ao _ _,fun c hc=>?_⟩;exact Sm hc.1 (fun e=>hc.2 ⟨0,hd,o0,e▸hbown⟩) _ _
end
end Go.Sx
end
section
namespace Go.Sx
open Go.RowKit
section
variable {P:Program}{ts:Tis}{G:Cons}{N:Nat}
theorem Du (hm:P.follows .mixedOrders=true)(hts:ts.ok P)(hG:ConsOk P G){id:Nat}{g:Operand}{ps:Array Tmp}{assign body:Code}{C:St->Option LCon}
  (hpn:ps.toList.Nodup) (hpN:∀ p∈ps.toList,p<N) (hca:cj N assign=true) (hcb:cj N body=true)
  (h:∀ st0 lc,C st0=some lc->lc.pre->∃ st,NilS st0 st/\∃ (f:FuncId) (caps:List SV) (τ ρ σ:Type) (l:List τ) (mk:τ->List SV) (step:τ->σ->ρ⊕σ) (p:τ->σ->Prop) (pre:Prop) (s0:σ) (exE:ρ->Ex) (outE:ρ->St) (outN:σ->St) (T:List (Nat×SV)) (H:σ->List Ob) (Hy:ρ->List Ob) (js:List Nat),
   raw st.t g=.fn f [] caps/\lc=LC pre (fJ step l s0) exE outE outN/\okL step p l s0/\st.h.length<=(H s0).length/\Sub js st.h.length ⟨st.t,sq (kw st caps) st.h⟩ ⟨T,H s0⟩/\
   C8 P f (fun y=>y::caps.map (ren (C_ (kw st caps)) 3)) (Bt (kw st caps) st.h) (l.map mk)/\
   (∀ x s,p x s->(mk x).length=ps.size/\∃ L,(∀ l,ak P (some l) N L assign)/\(∀ l,ak P (some l) N L body)/\exec ts G L assign ⟨psT ps.toList (mk x)++T,H s⟩ (fun e st1=>e=.normal/\exec ts G L body st1 (rgQ step exE T H Hy st.h.length id x s)))/\
   (∀ s,fN (outN s) st.h.length ⟨T,H s⟩)/\∀ y,fN (outE y) st.h.length ⟨T,Hy y⟩):iG P none N id (.rangeFunc g ps assign body) C:=by
 intro nd F w0 st0 lc hC hpre own a w hr;obtain⟨st,hN,hrest⟩:=h st0 lc hC hpre;obtain⟨own',hr'⟩:=hN.rel hr;refine Fz hm hts hG hpn hpN hca hcb (C:=fun s=>@ite _ (s=st) (Classical.propDecidable _) (some lc) none) (fun s l e _=>?_) nd F w0 st lc (if_pos rfl) hpre own' a w hr';split at e
 ·rename_i e1;subst e1;cases e;exact hrest
 ·cases e
end
end Go.Sx
end
section
namespace Go.Proofs
open Go.Shelf
def Tryz.sortI_ren:Go.Shelf.Ren:=⟨fun|5=>74|8=>81|7=>101|19=>112|20=>113|10=>125|11=>126|12=>127|13=>128|14=>129|15=>130|16=>131|17=>132|18=>133|30=>145|31=>137|32=>138|33=>146|34=>147|35=>62|40=>152|n=>n,fun|23=>47|25=>3|3=>3|32=>116|22=>47|0=>0|44=>162|46=>164|4=>4|36=>156|35=>155|41=>78|5=>5|9=>9|53=>184|57=>187|63=>195|64=>192|n=>n,fun|n=>n⟩
theorem Tryz.sortI:Go.Proofs.SlLaysM.n5 Tryz.prog Tryz.sortI_ren:= {
 mixed:=by kernel_rfl
 f5:=⟨Tryz.f74.name,by decide,Tryz.func74.trans (congrArg some (by kernel_rfl))⟩
 f7:=⟨Tryz.f101.name,by decide,Tryz.func101.trans (congrArg some (by kernel_rfl))⟩
 f8:=Tryz.func81.trans (congrArg some (by kernel_rfl))
 f10:=⟨Tryz.f125.name,by decide,Tryz.func125.trans (congrArg some (by kernel_rfl))⟩
 f11:=⟨Tryz.f126.name,by decide,Tryz.func126.trans (congrArg some (by kernel_rfl))⟩
 f12:=⟨Tryz.f127.name,by decide,Tryz.func127.trans (congrArg some (by kernel_rfl))⟩
 f13:=⟨Tryz.f128.name,by decide,Tryz.func128.trans (congrArg some (by kernel_rfl))⟩
 f14:=⟨Tryz.f129.name,by decide,Tryz.func129.trans (congrArg some (by kernel_rfl))⟩
 f15:=⟨Tryz.f130.name,by decide,Tryz.func130.trans (congrArg some (by kernel_rfl))⟩
 f16:=⟨Tryz.f131.name,by decide,Tryz.func131.trans (congrArg some (by kernel_rfl))⟩
 f17:=⟨Tryz.f132.name,by decide,Tryz.func132.trans (congrArg some (by kernel_rfl))⟩
 f18:=⟨Tryz.f133.name,by decide,Tryz.func133.trans (congrArg some (by kernel_rfl))⟩
 f19:=Tryz.func112.trans (congrArg some (by kernel_rfl))
 f20:=Tryz.func113.trans (congrArg some (by kernel_rfl))
 f30:=⟨Tryz.f145.name,by decide,Tryz.func145.trans (congrArg some (by kernel_rfl))⟩
 f31:=Tryz.func137.trans (congrArg some (by kernel_rfl))
 f32:=Tryz.func138.trans (congrArg some (by kernel_rfl))
 f33:=⟨Tryz.f146.name,by decide,Tryz.func146.trans (congrArg some (by kernel_rfl))⟩
 f34:=⟨Tryz.f147.name,by decide,Tryz.func147.trans (congrArg some (by kernel_rfl))⟩
 f35:=⟨Tryz.f62.name,by decide,Tryz.func62.trans (congrArg some (by kernel_rfl))⟩
 f40:=⟨Tryz.f152.name,by decide,Tryz.func152.trans (congrArg some (by kernel_rfl))⟩
 t0:=Tryz.underlying0
 a0:=Tryz.isAgg0
 z0:=Tryz.sizeOf0
 v0:=Tryz.zeroValue0
 t3:=Tryz.underlying3
 a3:=Tryz.isAgg3
 z3:=Tryz.sizeOf3
 v3:=Tryz.zeroValue3
 t4:=Tryz.underlying4
 a4:=Tryz.isAgg4
 z4:=Tryz.sizeOf4
 v4:=Tryz.zeroValue4
 t5:=Tryz.underlying5
 a5:=Tryz.isAgg5
 z5:=Tryz.sizeOf5
 v5:=Tryz.zeroValue5
 t9:=Tryz.underlying9
 a9:=Tryz.isAgg9
 z9:=Tryz.sizeOf9
 v9:=Tryz.zeroValue9
 t22:=Tryz.underlying47
 a22:=Tryz.isAgg47
 z22:=Tryz.sizeOf47
 v22:=Tryz.zeroValue47
 t23:=Tryz.underlying47
 a23:=Tryz.isAgg47
 z23:=Tryz.sizeOf47
 v23:=Tryz.zeroValue47
 t25:=Tryz.underlying3
 a25:=Tryz.isAgg3
 z25:=Tryz.sizeOf3
 v25:=Tryz.zeroValue3
 t32:=Tryz.underlying116
 a32:=Tryz.isAgg116
 z32:=Tryz.sizeOf116
 v32:=Tryz.zeroValue116
 t35:=Tryz.underlying155
 a35:=Tryz.isAgg155
 z35:=Tryz.sizeOf155
 v35:=Tryz.zeroValue155
 t36:=Tryz.underlying156
 a36:=Tryz.isAgg156
 z36:=Tryz.sizeOf156
 v36:=Tryz.zeroValue156
 t41:=Tryz.underlying78
 a41:=Tryz.isAgg78
 z41:=Tryz.sizeOf78
 v41:=Tryz.zeroValue78
 t44:=Tryz.underlying162
 a44:=Tryz.isAgg162
 z44:=Tryz.sizeOf162
 v44:=Tryz.zeroValue162
 t46:=Tryz.underlying164
 a46:=Tryz.isAgg164
 z46:=Tryz.sizeOf164
 v46:=Tryz.zeroValue164
 t53:=Tryz.underlying184
 a53:=Tryz.isAgg184
 z53:=Tryz.sizeOf184
 v53:=Tryz.zeroValue184
 t57:=Tryz.underlying187
 a57:=Tryz.isAgg187
 z57:=Tryz.sizeOf187
 v57:=Tryz.zeroValue187
 t63:=Tryz.underlying195
 a63:=Tryz.isAgg195
 z63:=Tryz.sizeOf195
 v63:=Tryz.zeroValue195
 t64:=Tryz.underlying192
 a64:=Tryz.isAgg192
 z64:=Tryz.sizeOf192
 v64:=Tryz.zeroValue192}
end Go.Proofs
end
section
namespace Go.Sx
open Go.Proofs
open IntKind (i64)
theorem K1:FnOkO Tryz.prog 74 An:=Dt Tryz.sortI
@[go_sem] def bM (d:District)(k_0:Nat)(s_0:List (RegisterTitle×Int)):Empty⊕(List (RegisterTitle×Int)):=(bif((d.rights.getD k_0 default).kind==1)then .inr (fH .registerTitle .int s_0 ({ right:=(k_0:Int),farm:=(d.rights.getD k_0 default).farm}:RegisterTitle) ((d.rights.getD k_0 default).litres))else .inr s_0)
@[go_sem] def bN (ds:List Deed)(z_1:Deed)(s_1:List Int×List (RegisterTitle×Int)):Empty⊕(List Int×List (RegisterTitle×Int)):=letI q0:=({ right:=z_1.right,farm:=z_1.since}:RegisterTitle);letI q1:=dL .registerTitle .int s_1.2 q0;letI q2:=mG .registerTitle .int s_1.2 q0;(bif(q1==0)then .inr ((s_1.1++([z_1.no])),s_1.2)else(bif(z_1.kind==1)then .inr (s_1.1,(c7 z_1 q1 q2))else(bif(z_1.kind==2)then .inr (s_1.1,(ca z_1 q1 q2))else(bif(z_1.kind==3)then .inr (s_1.1,q2)else .inr default))))
def c8 (ds:List Deed)(z_1:Deed)(s_1:List Int×List (RegisterTitle×Int)):Prop:=letI q1:=({ right:=z_1.right,farm:=z_1.since}:RegisterTitle);letI q0:=dL .registerTitle .int s_1.2 q1;(((q0==0)=true->((s_1.1++([z_1.no])).length*8<=fB))/\((q0==0)=false->((z_1.kind==1)=false->(((z_1.kind==2)=true->(dz z_1 q0 (mG .registerTitle .int s_1.2 q1)))/\((z_1.kind==2)=false->((z_1.kind==3)=false->False))))))
def cK (d:District)(ds:List Deed):List (RegisterTitle×Int)×List Int:=(match aj (bM d) d.rights.length 0 ([])with| .inl x=>x.elim| .inr s_0=>(match fJ (bN ds) (aF ds) ([],s_0)with| .inl x=>x.elim| .inr s_1=>(s_1.2,(sR s_1.1))))
def fv (d:District)(ds:List Deed):Prop:=letI q0:=aF ds;(d.rights.length<=bb->(∀ s_0,aj (bM d) d.rights.length 0 ([])=.inr s_0->((bV ds (q0.map uv))/\okL (bN ds) (c8 ds) q0 ([],s_0))))
@[go_sem] noncomputable def j6:List SV->Option Con:=(pD .district fun d=>(pFn 103 (pXR .deed fun ds=>(pE ((pE (.det (fv d ds) (.tup [.nm .registerTitle .int ((cK d ds).1),.nw .int ((cK d ds).2)]))))))))
theorem zq79 {l0 l1:List Nat}(a0:JL l0)(a1:JL l1){p:Prop}(h:JL l0->JL l1->p:=by intro ja jb;simp only[go_sem,Nat.reduceBEq,Nat.reduceLeDiff,Nat.reduceLT,decide_true,Nat.reduceAdd,Nat.reduceSub,Nat.reduceMul,Int.reduceLE,Int.reduceLT,Int.reduceToNat,Int.reduceNeg,reduceCtorEq,oi,bN,psT,uv,List.cons_append,List.nil_append,hk0];all_goals exact g_ ja jb):p:=h a0 a1
theorem zq80 {l0 l1:List Nat}(a0:JL l0)(a1:JL l1){p:Prop}(h:JL l0->JL l1->p:=by intro ja jb;simp only[go_sem,Nat.reduceBEq,Nat.reduceLeDiff,Nat.reduceLT,decide_true,Nat.reduceAdd,Nat.reduceSub,Nat.reduceMul,Int.reduceLE,Int.reduceLT,Int.reduceToNat,Int.reduceNeg,reduceCtorEq,oi,bN,psT,uv,List.cons_append,List.nil_append,hk0,hk1];all_goals exact g_ ja jb):p:=h a0 a1
theorem Sn {l0 l1:List Nat}(a0:JL l0)(a1:JL l1){p:Prop}(h:JL l0->JL l1->p:=by intro ja jb;simp only[go_sem,Nat.reduceBEq,Nat.reduceLeDiff,Nat.reduceLT,decide_true,Nat.reduceAdd,Nat.reduceSub,Nat.reduceMul,Int.reduceLE,Int.reduceLT,Int.reduceToNat,Int.reduceNeg,reduceCtorEq,oi,bN,psT,uv,List.cons_append,List.nil_append,hk0,hk1,hk2];all_goals exact g_ ja jb):p:=h a0 a1
theorem So {l0 l1:List Nat}(a0:JL l0)(a1:JL l1){p:Prop}(h:JL l0->JL l1->p:=by intro ja jb;simp only[go_sem,Nat.reduceBEq,Nat.reduceLeDiff,Nat.reduceLT,decide_true,Nat.reduceAdd,Nat.reduceSub,Nat.reduceMul,Int.reduceLE,Int.reduceLT,Int.reduceToNat,Int.reduceNeg,reduceCtorEq,oi];all_goals exact g_ ja jb):p:=h a0 a1
theorem zq85 {p:Prop}(h:p:=by simp only[go_sem,Nat.reduceBEq,Nat.reduceLeDiff,Nat.reduceLT,decide_true,Nat.reduceAdd,Nat.reduceSub,Nat.reduceMul,Int.reduceLE,Int.reduceLT,Int.reduceToNat,Int.reduceNeg,reduceCtorEq,oi];all_goals exact cl):p:=h
theorem mV:FnOk Tryz.prog 48 j6:=by
 have hG:ConsOk Tryz.prog (mkG [(73,oh)] [(74,An),(98,ib),(99,gL),(100,gM)]):=av (cgc sJ cg0) (cgc K1 (cgc pa (cgc oS (cgc oT cg0))));refine nI [(.cell 5 47,.int)] mixed al hG (fn:=Tryz.f48) (c:=ae Tryz.f48) kr kr kr kr (aS fun d=>(su (KG fun ds=>(aD ((aD (fun hp=>?_)))))));dsimp only[aC]at hp;unfold fv at hp;refine⟨nbl rfl,(fun id st=>bif Nat.beq id 0 then some (LCR (ρ:=Empty) (σ:=(List (RegisterTitle×Int))) 4 [] [0,1,2,3] (fun k_0 s_0=>⟨[(1,.fn 103 [] [.ep [.rs .deed ds] 0]),(4,.ptr 1 0),(5,.ptr 2 0),(14,.rs .right d.rights),(15,.v (.int .i64 (d.rights.length:Int))),(16,.v (.int .i64 (k_0:Int)))],[.dead,.cells [.os 3],.cells [.v (.slice none 0 0)],.mp .registerTitle .int s_0 none]⟩) (bM d) pT d.rights.length ([]) (d.rights.length<=bb) ((·.elim)) ((·.elim)) st)else bif Nat.beq id 2 then some (LC (ρ:=Empty) (σ:=List Int×List (RegisterTitle×Int)) (lk 4 st.t=.ptr 1 0/\lk 5 st.t=.ptr 2 0/\lk 8 st.t=.ptr 5 0/\lk 33 st.t=.fn 103 [] [.ep [.rs .deed ds] 0]/\st.h=[.dead,.cells [.os 3],.cells [.v (.slice none 0 0)],.mp .registerTitle .int (cO (aj (bM d) d.rights.length 0 ([]))) none,.mp .int .fnc dP none,.cells [.os 4]]/\bV ds ((aF ds).map uv)/\okL (bN ds) (c8 ds) (aF ds) ([],(cO (aj (bM d) d.rights.length 0 ([]))))) (fJ (bN ds) (aF ds) ([],(cO (aj (bM d) d.rights.length 0 ([]))))) (fun x=>x.elim) (fun x=>x.elim) (fun s_1=>⟨[(4,.ptr 1 0),(5,.ptr 2 0),(8,.ptr 5 0)],[.dead,.cells [.os 3],.cells [.os 7],.mp .registerTitle .int s_1.2 none,.mp .int .fnc dP none,.cells [.os 4],.dead,.row .int s_1.1]⟩))else none),?_,?_⟩
 ·unfold ae Tryz.f48;simp only[ak,true_and,and_true];refine⟨?_,?_⟩
  ·refine d9 mixed al hG kr (fun _=>rfl) (d.rights.length:Int) rfl gX (fun hb0 k_0 s_0 hlt0 _ hw hc=>⟨L0,ah _,?_⟩) (fun hb0 s_0 hc=>?_)
   ·exact bY (jl [0,1,2,3])
   ·exact bZ (jl [0,1,2,3])
  ·refine Du mixed al hG (by decide) (by decide) kr kr fun st lc hC hp=>?_;simp only[go_sem,Nat.reduceBEq,Option.some.injEq]at hC;subst hC;obtain⟨t,h⟩:=st;dsimp only[LC]at hp;obtain⟨e1_0,e1_1,e1_2,e1_3,rfl,hb1,hok1⟩:=hp;refine⟨⟨t,[.dead,.cells [.os 3],.cells [.os 6],.mp .registerTitle .int (cO (aj (bM d) d.rights.length 0 ([]))) none,.mp .int .fnc dP none,.cells [.os 4],.row .int ([])]⟩,NilS.cell (h:=[.dead,.cells [.os 3],.cells [.v (.slice none 0 0)],.mp .registerTitle .int (cO (aj (bM d) d.rights.length 0 ([]))) none,.mp .int .fnc dP none,.cells [.os 4]]) (i:=2) (j:=0) (.row .int ([])) (NilS.refl _) rfl rfl (.inl ⟨_,rfl⟩),103,[.ep [.rs .deed ds] 0],Deed,_,_,(aF ds),uv,(bN ds),(c8 ds),_,([],(cO (aj (bM d) d.rights.length 0 ([])))),_,_,_,[(4,.ptr 1 0),(5,.ptr 2 0),(8,.ptr 5 0)],(fun s_1=>[.dead,.cells [.os 3],.cells [.os 7],.mp .registerTitle .int s_1.2 none,.mp .int .fnc dP none,.cells [.os 4],.dead,.row .int s_1.1]),(fun x=>x.elim),[0,1,2,3,4,5,6,6],?_,rfl,hok1,nbl rfl,?_,iL ds _ hb1,fun z_1 s_1 hq1=>⟨rfl,L0,fun l=>?_,fun l=>?_,?_⟩,fun s_1=>?_,fun y=>?_⟩
   ·simp only[go_sem,e1_0,e1_1,e1_2,e1_3]
   ·simp only[go_sem,Nat.reduceBEq,Nat.reduceLeDiff,Nat.reduceLT,decide_true,Nat.reduceAdd,Nat.reduceSub,Nat.reduceMul,Int.reduceLE,Int.reduceLT,Int.reduceToNat,Int.reduceNeg,reduceCtorEq,sq,kw,List.flatMap_cons,List.flatMap_nil,List.nil_append,List.append_nil,List.map_nil,e1_0,e1_1,e1_2,e1_3];all_goals (first|done|decide|(repeat' (first|refine And.intro ?_ ?_|rfl|decide)))
   ·simp only[ak,and_self,true_and,and_true]
   ·simp only[ak,and_self,true_and,and_true]
   ·unfold c8 at hq1;rcases Bool.eq_false_or_eq_true (z_1.kind==1)with hk0|hk0
    ·exact zq79 (jl [0,1,2,3,4,5,6,11]) (jl [0,1,2,3,4,5,6,7])
    rcases Bool.eq_false_or_eq_true (z_1.kind==2)with hk1|hk1
    ·exact zq80 (jl [0,1,2,3,4,5,6,11]) (jl [0,1,2,3,4,5,6,7])
    rcases Bool.eq_false_or_eq_true (z_1.kind==3)with hk2|hk2
    ·exact Sn (jl [0,1,2,3,4,5,6,11]) (jl [0,1,2,3,4,5,6,7])
    exact Sn (jl [0,1,2,3,4,5,6,11]) (jl [0,1,2,3,4,5,6,7])
   ·exact So (jl [0,1,2,3,4,5,6,11]) (jl [0,1,2,3,4,5,6,7])
   ·exact So (jl [0,1,2,3,4,5,6,11]) (jl [0,1,2,3,4,5,6,7])
 ·unfold ae Tryz.f48;try unfold cK
  exact zq85
theorem BU:∀ (l:List Deed) (n:Int),pd .int .deed (nK l) n=l.any fun y=>y.no==n:=fun l n=>by
 have:∀ (r:List Deed),pd .int .deed (nK r.reverse) n=r.reverse.any fun y=>y.no==n:=fun r=>by
  induction r with
  |nil=>rfl
  |cons x r ih=>
   rw[List.reverse_cons,qm,FJ,ih,List.any_append];simp only[List.any_cons,List.any_nil,Bool.or_false];rw[Bool.or_comm];congr 1
   by_cases h:n=x.no
   ·subst h;simp
   ·have:¬x.no=n:=fun e=>h e.symm;simp[h,this]
 simpa using this l.reverse
theorem xn {l:List Deed}(h:Asc l){y:Deed}(hy:y∈l):dL .int .deed (nK l) y.no=y:=by
 have:∀ (r:List Deed),Asc r.reverse->∀ y∈r,dL .int .deed (nK r.reverse) y.no=y:=fun r=>by
  induction r with
  |nil=>simp
  |cons x r ih=>
   intro hA y hy;rw[List.reverse_cons]at hA |-;obtain⟨a1,_,a3⟩:=List.pairwise_append.1 hA;rw[qm,oo];rcases List.mem_cons.1 hy with rfl|hy
   ·rw[if_pos rfl]
   ·have:=a3 y (by simpa using hy) x (by simp);rw[if_neg (show ¬y.no=x.no by omega)];exact ih a1 y hy
 simpa using this l.reverse (by simpa using h) y (by simpa using hy)
structure Fit (d:District)(x:Deed):Prop where
 no0:0<=x.no
 no1:x.no<=1048576
 at0:0<=x.at_
 at1:x.at_<=4096
 kn0:0<=x.known
 kn1:x.known<=1048576
 kind:x.kind=1\/x.kind=2\/x.kind=3\/x.kind=4
 held:x.kind≠4->0<=x.right/\x.right< (d.rights.length:Int)/\(d.rights.getD (Int.toNat x.right) default).kind=1/\0<=x.since/\x.since< (d.farms.length:Int)
 pass:x.kind=1->0<=x.to/\x.to< (d.farms.length:Int)/\x.to≠x.since
 split:x.kind=2->PartsOk d x.parts
theorem In {d:District}{m:List (Int×Deed)}{x:Deed}(hf:d.farms.length<=600)(hr:d.rights.length<=256)(h:bU d m x=true):Fit d x/\(x.kind=4->pd .int .deed m x.of_=true/\(dL .int .deed m x.of_).kind≠4/\(dL .int .deed m x.of_).known<=x.known):=by
 unfold bU at h;cases h0:((((!(ap x.no 0 1048576)) ||(!(ap x.at_ 0 4096))) ||(!(ap x.known 0 1048576))) ||(!(gF x)))with
 |true=>rw[h0]at h;cases h
 |false=>
  rw[h0]at h;simp only[Bool.or_eq_false_iff,Bool.not_eq_false']at h0;obtain⟨⟨⟨a1,a2⟩,a3⟩,a4⟩:=h0;rw[nJ]at a1 a2 a3;simp only[cond_false]at h;by_cases k1:x.kind=1
  ·rw[show(x.kind==1)=true by simp[k1]]at h;simp only[cond_true,Bool.and_eq_true,beq_iff_eq,bne_iff_ne]at h;obtain⟨⟨⟨⟨b1,b2⟩,b3⟩,b4⟩,b5⟩:=h;rw[pK _ (by omega)]at b1 b3 b4;exact⟨⟨a1.1,a1.2,a2.1,a2.2,a3.1,a3.2,.inl k1,fun _=>⟨b1.1,b1.2,b2,b3.1,b3.2⟩,fun _=>⟨b4.1,b4.2,b5⟩,fun e=>by omega⟩,fun e=>by omega⟩
  ·rw[show(x.kind==1)=false by simpa using k1]at h;by_cases k2:x.kind=2
   ·rw[show(x.kind==2)=true by simp[k2]]at h;simp only[cond_true,cond_false,Bool.and_eq_true,beq_iff_eq]at h;obtain⟨⟨⟨b1,b2⟩,b3⟩,b4⟩:=h;rw[pK _ (by omega)]at b1 b3;exact⟨⟨a1.1,a1.2,a2.1,a2.2,a3.1,a3.2,.inr (.inl k2),fun _=>⟨b1.1,b1.2,b2,b3.1,b3.2⟩,fun e=>by omega,fun _=>Ib hf b4⟩,fun e=>by omega⟩
   ·rw[show(x.kind==2)=false by simpa using k2]at h;by_cases k3:x.kind=3
    ·rw[show(x.kind==3)=true by simp[k3]]at h;simp only[cond_true,cond_false,Bool.and_eq_true,beq_iff_eq]at h;obtain⟨⟨b1,b2⟩,b3⟩:=h;rw[pK _ (by omega)]at b1 b3;exact⟨⟨a1.1,a1.2,a2.1,a2.2,a3.1,a3.2,.inr (.inr (.inl k3)),fun _=>⟨b1.1,b1.2,b2,b3.1,b3.2⟩,fun e=>by omega,fun e=>by omega⟩,fun e=>by omega⟩
    ·rw[show(x.kind==3)=false by simpa using k3]at h;by_cases k4:x.kind=4
     ·rw[show(x.kind==4)=true by simp[k4]]at h;simp only[cond_true,cond_false,Bool.and_eq_true,bne_iff_ne,decide_eq_true_eq]at h;obtain⟨⟨b1,b2⟩,b3⟩:=h;exact⟨⟨a1.1,a1.2,a2.1,a2.2,a3.1,a3.2,.inr (.inr (.inr k4)),fun e=>absurd k4 e,fun e=>by omega,fun e=>by omega⟩,fun _=>⟨b1,b2,b3⟩⟩
     ·rw[show(x.kind==4)=false by simpa using k4]at h;simp only[cond_false]at h;cases h
structure Deeds (d:District)(l:List Deed):Prop where
 right:Right1 d
 len:l.length<=512
 asc:Asc l
 fit:∀ x∈l,Fit d x
 void:∀ x∈l,x.kind=4->∃ y∈l,y.no=x.of_/\y.kind≠4/\y.known<=x.known/\y.no<x.no
theorem Ew {d:District}:∀ {r b:List Deed},Chk d b r->∀ x∈r,∃ b',(∃ t,b++r=b'++x::t)/\bU d (nK b') x=true
 | [],_,_,x,hx=>by cases hx
 |y::r,b,⟨h1,h2,h3⟩,x,hx=>by
  rcases List.mem_cons.1 hx with rfl|hx
  ·exact⟨b,⟨r,rfl⟩,h2⟩
  ·obtain⟨b',⟨t,e⟩,h⟩:=Ew h3 x hx;exact⟨b',⟨t,by rw[<-e];simp⟩,h⟩
theorem pW {d:District}{l:List Deed}(h:ai d l=0):Deeds d l:=by
 obtain⟨h1,h2,_,h4⟩:=(t6 d l).1 h;have hr:=uw (d:=d) (by rw[h1];rfl);have hA:=Chk.asc List.Pairwise.nil h4;rw[List.nil_append]at hA;have hf:∀ x∈l,∃ b',(∃ t,l=b'++x::t)/\bU d (nK b') x=true:=fun x hx=>by
  have:=Ew h4 x hx;simpa using this
 refine⟨hr,h2,hA,fun x hx=>?_,fun x hx hk=>?_⟩
 ·obtain⟨b,_,h⟩:=hf x hx;exact(In hr.farms hr.rights h).1
 ·obtain⟨b,⟨t,e⟩,h⟩:=hf x hx;obtain⟨q1,q2,q3⟩:=(In hr.farms hr.rights h).2 hk;rw[BU,List.any_eq_true]at q1;obtain⟨y,hy,hn⟩:=q1;have hn:y.no=x.of_:=by simpa using hn
  rw[e]at hA;have hAb:Asc b:=(List.pairwise_append.1 hA).1;rw[<-hn,xn hAb hy]at q2 q3;exact⟨y,by rw[e];exact List.mem_append_left _ hy,hn,q2,q3,(List.pairwise_append.1 hA).2.2 y hy x List.mem_cons_self⟩
def rK (l:List Deed)(known n:Int):Bool:=l.any fun v=>v.kind==4&&decide (v.known<=known)&&v.of_==n
def uX (l:List Deed)(hour known:Int):List Deed:=l.filter fun x=>!((((x.kind==4) ||(decide (x.known > known))) ||(decide (x.at_ > hour))) ||rK l known x.no)
theorem Io (l:List Deed)(known:Int):∃ m,aj (dF l known) l.length 0 []=.inr m/\∀ n,dL .int .bool m n=rK l known n:=by
 obtain⟨r,h1,h2⟩:=sL (step:=dF l known) (fun k m=>∀ n,dL .int .bool m n=rK (l.take k) known n) l.length 0 ([]:List (Int×Bool)) (fun n=>by simp[dL,eM,dA,rK]) (fun j s _ hj hs=>by
  rw[Nat.zero_add]at hj;unfold dF;rw[cJ l default hj];cases hc:(((l.getD j (default:Deed)).kind==4)&&(decide ((l.getD j (default:Deed)).known<=known)))with
  |true=>
   refine⟨_,rfl,fun n=>?_⟩;rw[oo];unfold rK at hs |-;rw[List.any_append];simp only[List.any_cons,List.any_nil,Bool.or_false,hc,Bool.true_and];by_cases hn:n=(l.getD j (default:Deed)).of_
   ·subst hn;simp
   ·rw[if_neg hn,hs];have:((l.getD j (default:Deed)).of_==n)=false:=by simp only[beq_eq_false_iff_ne];exact fun e=>hn e.symm
    rw[this,Bool.or_false]
  |false=>
   refine⟨_,rfl,fun n=>?_⟩;rw[hs];unfold rK;rw[List.any_append];simp only[List.any_cons,List.any_nil,Bool.or_false,hc,Bool.false_and])
 refine⟨r,h1,fun n=>?_⟩;rw[h2,Nat.zero_add,List.take_length]
theorem Ip (K G:List Deed):((vL .deed (K++G) (K.length:Int) ((K++G).length:Int)).take K.length)=K:=by
 unfold vL;simp only[Int.toNat_natCast];split
 ·rename_i h;rw[List.length_append]at h;have:G=[]:=List.eq_nil_of_length_eq_zero (by omega);subst this;simp
 ·simp
theorem BV {α:Type}{step:Nat->Unit->Int⊕Unit}(l:List α)(d:α)(P:α->Bool)(h:∀ k,k<l.length->step k ()=bif P (l.getD k d)then .inl (k:Int)else .inr ()):(aj step l.length 0 ()=.inr ()/\∀ x∈l,P x=false)\/∃ K x R,l=K++x::R/\aj step l.length 0 ()=.inl (K.length:Int)/\P x=true/\∀ y∈K,P y=false:=by
 have key:∀ (R K:List α),l=K++R->(∀ y∈K,P y=false)->(aj step R.length K.length ()=.inr ()/\∀ x∈l,P x=false)\/∃ K' x R',l=K'++x::R'/\aj step R.length K.length ()=.inl (K'.length:Int)/\P x=true/\∀ y∈K',P y=false:=fun R=>by
  induction R with
  |nil=>exact fun K h hK=>.inl ⟨rfl,fun x hx=>hK x (by rw[h]at hx;simpa using hx)⟩
  |cons x R ih=>
   intro K hl hK;have e:=h K.length (by rw[hl];simp);have g:l.getD K.length d=x:=by rw[hl];simp[List.getD_eq_getElem?_getD]
   rw[g]at e;simp only[List.length_cons,aj,e];cases hx:P x with
   |true=>exact .inr ⟨K,x,R,hl,rfl,hx,hK⟩
   |false=>
    simp only[cond_false];have:=ih (K++[x]) (by rw[hl];simp) (fun y hy=>by
     rcases List.mem_append.1 hy with hy|hy
     ·exact hK y hy
     ·simp at hy;subst hy;exact hx)
    rw[List.length_append]at this;exact this
 exact key l [] rfl (by simp)
theorem FO (l:List Deed)(known hour:Int)(v:List (Int×Bool))(hl:l.length<2 ^ 47):aT l known hour v/\aP l known hour v=l.filter fun x=>!aN x known hour v:=by
 have hI:(aG l known hour v= -1/\∀ x∈l,aN x known hour v=false)\/∃ K x R,l=K++x::R/\aG l known hour v=(K.length:Int)/\aN x known hour v=true/\∀ y∈K,aN y known hour v=false:=by
  unfold aG;rcases BV (step:=c5 l known hour v) l default (fun x=>aN x known hour v) (fun k _=>rfl)with⟨e,h⟩ | ⟨K,x,R,h1,e,h2,h3⟩
  ·rw[e];exact .inl ⟨rfl,h⟩
  ·rw[e];exact .inr ⟨K,x,R,h1,rfl,h2,h3⟩
 unfold aT aP;rcases hI with⟨e,h⟩ | ⟨K,x,R,hl0,e,h2,h3⟩
 ·rw[e];refine⟨(fun h=>by cases h),?_⟩;simp only[BEq.rfl,cond_true];exact(List.filter_eq_self.2 fun x hx=>by rw[h x hx];rfl).symm
 ·have b:((K.length:Int) == -1)=false:=by simp only[beq_eq_false_iff_ne];omega
  have hlen:l.length=K.length+(R.length+1):=by rw[hl0];simp
  have w:i64.wrap ((K.length:Int)+1)=((K.length+1:Nat):Int):=by rw[a8 (by omega) (by omega)];omega
  rw[e,w];simp only[b,cond_false];obtain⟨k1,r,k2,K',G',rfl,k3⟩:okI (bf l known hour v) (bt l known hour v) (l.length+1) 0 (l,(K.length:Int),((K.length+1:Nat):Int))/\∃ r,aj (bf l known hour v) (l.length+1) 0 (l,(K.length:Int),((K.length+1:Nat):Int))=.inl r/\∃ K' G',r=((K'.length:Int),K'++G')/\K'=l.filter fun x=>!aN x known hour v:=by
   refine xg (fun s:List Deed×Int×Int=>((l.length:Int) - s.2.2).toNat) (fun s:List Deed×Int×Int=>∃ K' g G' R',s=(K'++g::(G'++R'),(K'.length:Int),((K'.length+(G'.length+1):Nat):Int))/\K'.length+(G'.length+1)+R'.length=l.length/\(l.filter fun x=>!aN x known hour v)=K'++R'.filter fun x=>!aN x known hour v) _ ?_ _ _ _ ⟨K,x,[],R,by rw[hl0];simp,by rw[hlen];simp;omega,?_⟩ (by simp only;omega)
   ·rintro k s ⟨K',g,G',R',rfl,hn,hF⟩;have hL:(K'++g::(G'++R')).length=l.length:=by rw[<-hn];simp;omega
    unfold bt bf;simp only[hL];cases R' with
    |nil=>
     have e1:decide (((K'.length+(G'.length+1):Nat):Int) < (l.length:Int))=false:=by rw[decide_eq_false_iff_not];simp only[List.length_nil]at hn;omega
     simp only[e1,cond_false];exact⟨(fun _ h=>by cases h),.inl ⟨_,rfl,K',g::(G'++[]),rfl,by simpa using hF.symm⟩⟩
    |cons y R'=>
     simp only[List.length_cons]at hn;have e1:decide (((K'.length+(G'.length+1):Nat):Int) < (l.length:Int))=true:=by rw[decide_eq_true_eq];omega
     have gy:(K'++g::(G'++y::R')).getD (K'.length+(G'.length+1)) default=y:=by
      have:K'++g::(G'++y::R')=(K'++g::G')++y::R':=by simp
      rw[this];exact j5 _ _ _ _ (by simp)
     have w1:i64.wrap (((K'.length+(G'.length+1):Nat):Int)+1)=((K'.length+(G'.length+1)+1:Nat):Int):=by rw[a8 (by omega) (by omega)];omega
     have w2:i64.wrap ((K'.length:Int)+1)=((K'.length+1:Nat):Int):=by rw[a8 (by omega) (by omega)];omega
     simp only[e1,cond_true,Int.toNat_natCast,gy,w1,w2];refine⟨fun _ _=>⟨by omega,fun _=>by omega⟩,.inr ?_⟩;cases hy:aN y known hour v with
     |false=>
      obtain⟨g',G2,hG⟩:∃ g' G2,G'++[y]=g'::G2:=by
       cases G' with
       |nil=>exact⟨y,[],rfl⟩
       |cons a b=>exact⟨a,b++[y],rfl⟩
      have hGl:G'.length+1=G2.length+1:=by have:=congrArg List.length hG;simpa using this
      refine⟨_,rfl,by simp only;omega,K'++[y],g',G2,R',?_,?_,?_⟩
      ·rw[oR K' g y _ rfl];have h1:g'::(G2++R')=G'++y::R':=by rw[<-List.cons_append,<-hG];simp
       rw[List.append_assoc,h1,Prod.mk.injEq,Prod.mk.injEq];refine⟨by simp,by simp,?_⟩;rw[List.length_append];simp only[List.length_cons,List.length_nil];omega
      ·rw[List.length_append];simp only[List.length_cons,List.length_nil];omega
      ·rw[hF,List.filter_cons_of_pos (by rw[hy];rfl)];simp
     |true=>
      refine⟨_,rfl,by simp only;omega,K',g,G'++[y],R',?_,by rw[List.length_append];simp only[List.length_cons,List.length_nil];omega,?_⟩
      ·have:(G'++[y])++R'=G'++y::R':=by simp
       rw[this,List.length_append,Prod.mk.injEq,Prod.mk.injEq];exact⟨rfl,rfl,by simp only[List.length_cons,List.length_nil];omega⟩
      ·rw[hF,List.filter_cons_of_neg (by rw[hy];simp)]
   ·rw[hl0,List.filter_append,List.filter_cons_of_neg (by rw[h2];simp)];congr 1
    exact List.filter_eq_self.2 fun y hy=>by rw[h3 y hy];rfl
  refine⟨fun _=>⟨k1,uC (Q:=fun _=>True) ⟨_,k2,trivial⟩,fun z hz=>?_⟩,?_⟩
  ·rw[k2]at hz;cases hz;have:(vL .deed (K'++G') (K'.length:Int) ((K'++G').length:Int)).length=(K'++G').length:=by
    unfold vL;simp only[Int.toNat_natCast];split
    ·rfl
    ·simp <;>omega
   simp only[this];simp only[List.length_append];omega
  ·rw[k2];simp only[Int.toNat_natCast,List.drop_zero];rw[Ip,k3]
theorem uF (l:List Deed)(hour known:Int)(hl:l.length<=512):dQ l hour known/\cn l hour known=stS (uX l hour known):=by
 obtain⟨m,e,hm⟩:=Io l known;have hp:∀ x,aN x known hour m=((((x.kind==4) ||(decide (x.known > known))) ||(decide (x.at_ > hour))) ||rK l known x.no):=fun x=>by
  unfold aN;rw[hm]
 obtain⟨d1,d2⟩:=FO l known hour m (by omega);have d3:(l.filter fun x=>!aN x known hour m)=uX l hour known:=by unfold uX;simp only[hp]
 rw[d3]at d2;have hlen:(uX l hour known).length<=l.length:=List.length_filter_le _ _;obtain⟨s1,s2⟩:=BL (uX l hour known) (by omega);unfold dQ cn;rw[e];refine⟨fun _ z hz=>?_,?_⟩
 ·cases hz;rw[d2];exact⟨by unfold fB;omega,d1,s1⟩
 ·simp only[d2,s2]
theorem qo (l:List Deed):aF l=l:=by
 obtain⟨r,h1,h2⟩:=sL (step:=bO l) (fun k s=>s=l.take k) l.length 0 ([]:List Deed) (by simp) (fun j s _ hj hs=>⟨_,rfl,by rw[cJ l default (by omega),hs]⟩);unfold aF;rw[h1];simp only[h2,Nat.zero_add,List.take_length]
theorem Iq (l:List Deed):bV l ((aF l).map uv):=fun _=>by
 rw[qo];refine⟨zW (fun k s=>s=l.take k) _ _ _ (by simp) (fun j s _ hj hs=>⟨?_,fun s' h=>?_⟩),fun s h=>?_⟩
 ·rw[Nat.zero_add]at hj;unfold co;rw[hs,List.length_take,Nat.min_eq_left (by omega),List.getElem?_map,List.getElem?_eq_getElem hj,jh l _ hj];rfl
 ·rw[Nat.zero_add]at hj;unfold bO at h;cases h;rw[cJ l default hj,hs]
 ·have:=qo l;unfold aF at this;rw[h]at this;simp only at this;rw[this,List.length_map]
theorem Ey {n d:Int}(hd:1<=d)(hd2:d<=1073741824)(h1: -1152921504606846976<=n)(h2:n<=1152921504606846976):kE n d=n / d:=by
 unfold kE;have e1:Int.tmod (Int.tmod n d+d) d=n % d:=by
  have a1: -d<Int.tmod n d:=Int.lt_tmod_of_pos n (by omega);rw[Int.tmod_eq_emod_of_nonneg (by omega),Int.add_emod_right];rw[Int.tmod_eq_emod];split
  ·show(n % d - 0) % d=n % d;rw[Int.sub_zero,Int.emod_emod]
  ·have:n % d - (d.natAbs:Int)=n % d+d*(-1):=by omega
   rw[this,Int.add_mul_emod_self_left,Int.emod_emod]
 have a1: -d<Int.tmod n d:=Int.lt_tmod_of_pos n (by omega);have a2:Int.tmod n d<d:=Int.tmod_lt_of_pos n (by omega);rw[a8 (by omega: -9223372036854775808<=Int.tmod n d+d) (by omega),e1];have b1:=Int.emod_nonneg n (by omega:d≠0);have b2:=Int.emod_lt_of_pos n (by omega:0<d);rw[a8 (by omega: -9223372036854775808<=n - n % d) (by omega)];have e2:n - n % d=d*(n / d):=by have:=Int.mul_ediv_add_emod n d;omega
 rw[e2,Int.mul_tdiv_cancel_left _ (by omega)];have c1:n / d<=1152921504606846976:=by
  have:=Int.ediv_le_ediv (by omega:0<d) h2;have:=Int.ediv_le_self (b:=d) (by omega:(0:Int)<=1152921504606846976);omega
 have c2: -1152921504606846976<=n / d:=by
  rw[Int.le_ediv_iff_mul_le (by omega)];have:=Int.mul_le_mul_of_nonneg_left (by omega:1<=d) (by omega:(0:Int)<=1152921504606846976);omega
 exact a8 (by omega) (by omega)
def gC {κ υ:Type}(l:List (κ×υ)):List κ:=l.map fun p=>p.1
theorem y6 {κ υ:Type}[DecidableEq κ]:∀ {l:List (κ×υ)} {x:κ},x ∉ gC l->eM l x=none
 | [],_,_=>rfl
 |(a,b)::r,x,h=>by
  unfold eM;rw[if_neg (fun e=>h (by simp[gC,e]))];exact y6 fun hm=>h (by simp only[gC,List.map_cons,List.mem_cons]at hm |-;exact .inr hm)
theorem xo {κ υ:Type}[DecidableEq κ]:∀ {l:List (κ×υ)},(gC l).Nodup->∀ {x:κ} {y:υ},eM l x=some y↔(x,y)∈l
 | [],_,x,y=>by simp[eM]
 |(a,b)::r,h,x,y=>by
  have h':=List.nodup_cons.1 h;unfold eM;by_cases e:x=a
  ·subst e;rw[if_pos rfl];simp only[Option.some.injEq,List.mem_cons,Prod.mk.injEq,true_and];refine⟨fun h=>.inl h.symm,fun h=>?_⟩;rcases h with h|h
   ·exact h.symm
   ·exact absurd (List.mem_map_of_mem (f:=fun p:κ×υ=>p.1) h) h'.1
  ·rw[if_neg e,xo h'.2];simp only[List.mem_cons,Prod.mk.injEq,e,false_and,false_or]
theorem oq {κ υ:Type}[DecidableEq κ](x:κ)(y:υ):∀ (l:List (κ×υ)),(gC l).Nodup->(gC (rO l x y)).Nodup/\∀ z,z∈gC (rO l x y)->z=x\/z∈gC l
 | [],_=>by simp[rO,gC]
 |(a,b)::r,h=>by
  have h':=List.nodup_cons.1 h;unfold rO;by_cases e:x=a
  ·subst e;rw[if_pos rfl];exact⟨h,fun z hz=>.inr hz⟩
  ·rw[if_neg e];obtain⟨g1,g2⟩:=oq x y r h'.2;refine⟨List.nodup_cons.2 ⟨fun hm=>?_,g1⟩,fun z hz=>?_⟩
   ·rcases g2 _ hm with h3|h3
    ·exact e h3.symm
    ·exact h'.1 h3
   ·rcases List.mem_cons.1 hz with rfl|hz
    ·exact .inr List.mem_cons_self
    ·rcases g2 z hz with h3|h3
     ·exact .inl h3
     ·exact .inr (List.mem_cons_of_mem _ h3)
theorem t7 {κ υ:Type}[DecidableEq κ](x:κ):∀ (l:List (κ×υ)),(gC l).Nodup->(gC (tp l x)).Nodup/\(∀ z,z∈gC (tp l x)->z∈gC l)/\∀ z,eM (tp l x) z=if z=x then none else eM l z
 | [],_=>by simp[tp,gC,eM]
 |(a,b)::r,h=>by
  have h':=List.nodup_cons.1 h;unfold tp;by_cases e:x=a
  ·subst e;rw[if_pos rfl];refine⟨h'.2,fun z hz=>List.mem_cons_of_mem _ hz,fun z=>?_⟩;by_cases hz:z=x
   ·subst hz;rw[if_pos rfl];exact y6 h'.1
   ·rw[if_neg hz];simp only[eM,if_neg hz]
  ·rw[if_neg e];obtain⟨g1,g2,g3⟩:=t7 x r h'.2;refine⟨List.nodup_cons.2 ⟨fun hm=>h'.1 (g2 _ hm),g1⟩,fun z hz=>?_,fun z=>?_⟩
   ·rcases List.mem_cons.1 hz with rfl|hz
    ·exact List.mem_cons_self
    ·exact List.mem_cons_of_mem _ (g2 z hz)
   ·simp only[eM,g3];by_cases hz:z=a
    ·subst hz;rw[if_pos rfl,if_neg (fun e2=>e e2.symm),if_pos rfl]
    ·simp only[if_neg hz]
def tot:Nat->(Int->Int)->Int
 |0,_=>0
 |n+1,g=>tot n g+g (n:Int)
def iw (g:Int->Int)(f v:Int):Int->Int:=fun x=>if x=f then v else g x
theorem BW {g h:Int->Int}:∀ {n:Nat},(∀ f:Int,0<=f->f< (n:Int)->g f=h f)->tot n g=tot n h
 |0,_=>rfl
 |n+1,e=>by unfold tot;rw[BW (n:=n) fun f h1 h2=>e f h1 (by omega),e n (by omega) (by omega)]
theorem qp (g:Int->Int)(f v:Int):∀ (n:Nat),0<=f->f< (n:Int)->tot n (iw g f v)=tot n g - g f+v
 |0,h0,h1=>by omega
 |n+1,h0,h1=>by
  unfold tot;by_cases h:f=(n:Int)
  ·subst h;rw[BW (g:=iw g n v) (h:=g) fun x _ hx=>by unfold iw;rw[if_neg (by omega)]];unfold iw;rw[if_pos rfl];omega
  ·rw[qp g f v n h0 (by omega)];unfold iw;rw[if_neg (fun e=>h e.symm)];omega
theorem Ir {g:Int->Int}(h:∀ f,0<=g f):∀ n,0<=tot n g
 |0=>Int.le_refl _
 |n+1=>by have:=Ir h n;have:=h n;unfold tot;omega
theorem Ap {g:Int->Int}(h:∀ f,0<=g f):∀ (n:Nat) (f:Int),0<=f->f< (n:Int)->g f<=tot n g
 |0,f,h0,h1=>by omega
 |n+1,f,h0,h1=>by
  unfold tot;have h2:=Ir h n;by_cases e:f=(n:Int)
  ·subst e;omega
  ·have:=Ap h n f h0 (by omega);have:=h n;omega
structure Good (F:Nat)(L:Int)(g:Int->Int):Prop where
 nn:∀ f,0<=g f
 sup:∀ f,g f≠0->0<=f/\f< (F:Int)
 tot:tot F g<=L
theorem Good.le {F:Nat}{L:Int}{g:Int->Int}(h:Good F L g)(hL:0<=L)(f:Int):g f<=L:=by
 by_cases e:g f=0
 ·omega
 ·obtain⟨a,b⟩:=h.sup f e;exact Int.le_trans (Ap h.nn F f a b) h.tot
theorem Good.put {F:Nat}{L M:Int}{g:Int->Int}(h:Good F L g){f v:Int}(h0:0<=f)(h1:f< (F:Int))(hv:0<=v)(hM:Go.Sx.tot F g - g f+v<=M):Good F M (iw g f v) where
 nn:=fun x=>by unfold iw;split;exact hv;exact h.nn x
 sup:=fun x hx=>by
  unfold iw at hx;split at hx
  ·rename_i e;rw[e];exact⟨h0,h1⟩
  ·exact h.sup x hx
 tot:=by rw[qp g f v F h0 h1];exact hM
def loP (p:Part)(n:Int):Int:=p.share.n*n / p.share.d
theorem Is {a:Ratio}(h:RatioOk a){n:Int}(h0:0<=n)(h1:n<=1073741824):(eF a n).1=a.n*n / a.d/\(eF a n).2.1= -(-(a.n*n) / a.d)/\(eF a n).2.2=0:=by
 have hb: -1152921504606846976<=a.n*n/\a.n*n<=1152921504606846976:=by
  have:(a.n*n).natAbs<=1073741824*1073741824:=by rw[Int.natAbs_mul];exact Nat.mul_le_mul (by have:=h.n0;have:=h.n;omega) (by omega)
  omega
 have hd:=h.d1;have hd2:=h.d;have hn0:=h.n0;have hn1:=h.n;unfold eF;rw[(dR a).2 h];have e:(decide (n< -1073741824) ||decide (n > 1073741824))=false:=by simp;omega
 simp only[bne_self_eq_false,cond_false,e];have ee: -a.n*n= -(a.n*n):=Int.neg_mul _ _;rw[a8 (n:=a.n*n) (by omega) (by omega),a8 (n:=0 - a.n) (by omega) (by omega),show 0 - a.n= -a.n by omega,ee,a8 (n:= -(a.n*n)) (by omega) (by omega),Ey hd hd2 (by omega) (by omega),Ey hd hd2 (by omega) (by omega)];refine⟨rfl,?_,trivial⟩;have c1: -(a.n*n) / a.d<=1152921504606846976:=by
  have:=Int.ediv_le_ediv (by omega:0<a.d) (by omega: -(a.n*n)<=1152921504606846976);have:=Int.ediv_le_self (b:=a.d) (by omega:(0:Int)<=1152921504606846976);omega
 have c2: -1152921504606846976<= -(a.n*n) / a.d:=by
  rw[Int.le_ediv_iff_mul_le (by omega)];have:=Int.mul_le_mul_of_nonneg_left (by omega:1<=a.d) (by omega:(0:Int)<=1152921504606846976);omega
 rw[a8 (by omega) (by omega)];omega
theorem It {p:Part}(h:RatioOk p.share)(hp:0<p.share.n){n:Int}(h0:0<=n):0<=loP p n:=by
 unfold loP;exact Int.ediv_nonneg (Int.mul_nonneg (by omega) h0) (by have:=h.d1;omega)
theorem Iu {x d:Rat}(hd:0<d)(h:0<=x*d):0<=x:=by
 rcases Classical.em (0<=x)with h1|h1
 ·exact h1
 ·have h2:0< -x:=by grind
  have h3:=Rat.mul_pos h2 hd;grind
theorem N4 {p:Part}(h:RatioOk p.share)(n:Int):((loP p n:Int):Rat)<=rv p.share*(n:Rat)/\rv p.share*(n:Rat)<=((loP p n:Int):Rat)+1:=by
 have hd:=h.d1;have d0:(0:Rat) < (p.share.d:Rat):=by exact_mod_cast (by omega:(0:Int) <p.share.d)
 have dn:(p.share.d:Rat)≠0:=lL (by omega);have e1:rv p.share*(p.share.d:Rat)=(p.share.n:Rat):=by unfold rv;exact Rat.div_mul_cancel dn
 have q:=Int.mul_ediv_add_emod (p.share.n*n) p.share.d;have q1:=Int.emod_nonneg (p.share.n*n) (by omega:p.share.d≠0);have q2:=Int.emod_lt_of_pos (p.share.n*n) (by omega:0<p.share.d);have r1:p.share.d*loP p n<=p.share.n*n:=by unfold loP;omega
 have r2:p.share.n*n<=p.share.d*loP p n+p.share.d:=by unfold loP;omega
 have r1':(p.share.d:Rat)*((loP p n:Int):Rat)<=(p.share.n:Rat)*(n:Rat):=by exact_mod_cast r1
 have r2':(p.share.n:Rat)*(n:Rat)<=(p.share.d:Rat)*((loP p n:Int):Rat)+(p.share.d:Rat):=by exact_mod_cast r2
 rw[<-e1]at r1' r2';generalize ((loP p n:Int):Rat)=lo at *;generalize (n:Rat)=m at *;generalize rv p.share=v at *;generalize (p.share.d:Rat)=d at *;constructor
 ·have:=Iu (x:=v*m - lo) d0 (by grind);grind
 ·have:=Iu (x:=lo+1 - v*m) d0 (by grind);grind
def c9 (l:List Part)(n:Int):Int:=(l.map fun p=>loP p n).sum
theorem N5 {l:List Part}(h:∀ p∈l,RatioOk p.share)(n:Int):((c9 l n:Int):Rat)<=sM l*(n:Rat)/\sM l*(n:Rat)<=((c9 l n+(l.length:Int):Int):Rat):=by
 induction l with
 |nil=>simp[c9,sM,Rat.zero_mul]
 |cons p r ih=>
  obtain⟨i1,i2⟩:=ih fun q hq=>h q (List.mem_cons_of_mem _ hq);obtain⟨j1,j2⟩:=N4 (h p List.mem_cons_self) n;have e:c9 (p::r) n=loP p n+c9 r n:=by simp[c9]
  have e1:((c9 (p::r) n:Int):Rat)=((loP p n:Int):Rat)+((c9 r n:Int):Rat):=by rw[e];exact_mod_cast rfl
  have e2:((c9 (p::r) n+((p::r).length:Int):Int):Rat)=(((loP p n:Int):Rat)+1)+((c9 r n+(r.length:Int):Int):Rat):=by
   have:c9 (p::r) n+((p::r).length:Int)=(loP p n+1)+(c9 r n+(r.length:Int)):=by rw[e];simp only[List.length_cons];omega
   rw[this];exact_mod_cast rfl
  rw[e1,e2];simp only[sM];generalize ((loP p n:Int):Rat)=a at *;generalize ((c9 r n:Int):Rat)=b at *;generalize ((c9 r n+(r.length:Int):Int):Rat)=c at *;generalize (n:Rat)=m at *;generalize rv p.share=v at *;generalize sM r=w at *;constructor <;>grind
theorem Ez {d:District}{l:List Part}(h:PartsOk d l)(n:Int):c9 l n<=n/\n<=c9 l n+(l.length:Int):=by
 obtain⟨h1,h2⟩:=N5 (fun p hp=>(h.part p hp).share) n;rw[h.sum,Rat.one_mul]at h1 h2;exact⟨by exact_mod_cast h1,by exact_mod_cast h2⟩
def sS (l:List Part)(n:Int)(g:Int->Int):Int->Int:=l.foldl (fun g p=>iw g p.farm (g p.farm+loP p n)) g
def ot (l:List Part)(g:Int->Int):Int->Int:=l.foldl (fun g p=>iw g p.farm (g p.farm+1)) g
def xp (l:List Part)(n:Int)(g:Int->Int):Int->Int:=ot (l.take (n - c9 l n).toNat) (sS l n g)
def Aq (x:Deed)(g:Int->Int):Int->Int:=
 if g x.since=0 then g else
 if x.kind=1 then iw (iw g x.since 0) x.to (iw g x.since 0 x.to+g x.since)else
 if x.kind=2 then xp x.parts (g x.since) (iw g x.since 0)else iw g x.since 0
theorem FP (l:List Part)(p:Part)(n:Int)(g:Int->Int):sS (l++[p]) n g=iw (sS l n g) p.farm (sS l n g p.farm+loP p n):=by
 unfold sS;rw[List.foldl_append];rfl
theorem Dv (l:List Part)(p:Part)(g:Int->Int):ot (l++[p]) g=iw (ot l g) p.farm (ot l g p.farm+1):=by
 unfold ot;rw[List.foldl_append];rfl
theorem xq (l:List Part)(p:Part)(n:Int):c9 (l++[p]) n=c9 l n+loP p n:=by
 unfold c9;simp
def PFit (F:Nat)(l:List Part):Prop:= ∀ p∈l,0<=p.farm/\p.farm< (F:Int)/\RatioOk p.share/\0<p.share.n
theorem PartsOk.fit {d:District}{l:List Part}(h:PartsOk d l):PFit d.farms.length l:=fun p hp=>⟨(h.part p hp).f0,(h.part p hp).f1,(h.part p hp).share,(h.part p hp).pos⟩
theorem qq {F:Nat}{n:Int}(h0:0<=n):∀ (l:List Part) (g:Int->Int) (M:Int),PFit F l->Good F M g->Good F (M+c9 l n) (sS l n g)/\tot F (sS l n g)=tot F g+c9 l n
 | [],g,M,_,hg=>by simpa[sS,c9]using hg
 |p::l,g,M,hl,hg=>by
  obtain⟨a,b,c,e⟩:=hl p List.mem_cons_self;have hlo:=It c e h0;have hgf:=hg.nn p.farm;have h1:Good F (M+loP p n) (iw g p.farm (g p.farm+loP p n)):=hg.put a b (by omega) (by have:=hg.tot;omega);obtain⟨q1,q2⟩:=qq h0 l _ _ (fun q hq=>hl q (List.mem_cons_of_mem _ hq)) h1;have e1:c9 (p::l) n=loP p n+c9 l n:=by simp[c9]
  rw[qp g p.farm _ F a b]at q2;rw[e1];refine⟨by rw[show M+(loP p n+c9 l n)=M+loP p n+c9 l n by omega];exact q1,?_⟩;show tot F (sS l n (iw g p.farm (g p.farm+loP p n)))=_;rw[q2];omega
theorem rL {F:Nat}:∀ (l:List Part) (g:Int->Int) (M:Int),PFit F l->Good F M g->Good F (M+l.length) (ot l g)/\tot F (ot l g)=tot F g+l.length
 | [],g,M,_,hg=>by simpa[ot]using hg
 |p::l,g,M,hl,hg=>by
  obtain⟨a,b,c,e⟩:=hl p List.mem_cons_self;have hgf:=hg.nn p.farm;have h1:Good F (M+1) (iw g p.farm (g p.farm+1)):=hg.put a b (by omega) (by have:=hg.tot;omega);obtain⟨q1,q2⟩:=rL l _ _ (fun q hq=>hl q (List.mem_cons_of_mem _ hq)) h1;rw[qp g p.farm _ F a b]at q2;simp only[List.length_cons];refine⟨by rw[show M+((l.length+1:Nat):Int)=M+1+(l.length:Int) by omega];exact q1,?_⟩;show tot F (ot l (iw g p.farm (g p.farm+1)))=_;rw[q2];omega
theorem PFit.take {F:Nat}{l:List Part}(h:PFit F l)(k:Nat):PFit F (l.take k):=fun p hp=>h p (List.mem_of_mem_take hp)
theorem Dw {d:District}{l:List Part}(h:PartsOk d l){n M:Int}(h0:0<=n){g:Int->Int}(hg:Good d.farms.length M g):Good d.farms.length (M+n) (xp l n g)/\tot d.farms.length (xp l n g)=tot d.farms.length g+n:=by
 obtain⟨q1,q2⟩:=qq h0 l g M h.fit hg;obtain⟨r1,r2⟩:=rL (l.take (n - c9 l n).toNat) _ _ (h.fit.take _) q1;obtain⟨l1,l2⟩:=Ez h n;have e:((l.take (n - c9 l n).toNat).length:Int)=n - c9 l n:=by rw[List.length_take];omega
 rw[e]at r1 r2;refine⟨by rw[show M+n=M+c9 l n+(n - c9 l n) by omega];exact r1,?_⟩;show tot _ (ot _ _)=_;rw[r2,q2];omega
theorem Iv {d:District}{x:Deed}(hx:Fit d x)(hk:x.kind≠4){L:Int}{g:Int->Int}(hg:Good d.farms.length L g):Good d.farms.length L (Aq x g)/\(x.kind≠3->tot d.farms.length (Aq x g)=tot d.farms.length g):=by
 obtain⟨_,_,_,s0,s1⟩:=hx.held hk;unfold Aq;by_cases hn:g x.since=0
 ·rw[if_pos hn];exact⟨hg,fun _=>rfl⟩
 rw[if_neg hn];have hnn:=hg.nn x.since;have hT:=hg.tot;have g1:Good d.farms.length (L - g x.since) (iw g x.since 0):=hg.put s0 s1 (Int.le_refl _) (by omega);have t1:=qp g x.since 0 d.farms.length s0 s1;by_cases k1:x.kind=1
 ·rw[if_pos k1];obtain⟨a,b,c⟩:=hx.pass k1;have h1:=g1.nn x.to;have t2:=qp (iw g x.since 0) x.to (iw g x.since 0 x.to+g x.since) d.farms.length a b;exact⟨g1.put a b (by omega) (by omega),fun _=>by omega⟩
 rw[if_neg k1];by_cases k2:x.kind=2
 ·rw[if_pos k2];obtain⟨q1,q2⟩:=Dw (hx.split k2) hnn g1;rw[show L - g x.since+g x.since=L by omega]at q1;exact⟨q1,fun _=>by omega⟩
 ·rw[if_neg k2];refine⟨⟨g1.nn,g1.sup,by have:=g1.tot;omega⟩,fun k3=>?_⟩;rcases hx.kind with e|e|e|e <;>omega
abbrev BM:=List (RegisterTitle×Int)
abbrev RT (r f:Int):RegisterTitle:= { right:=r,farm:=f}
def bk (m:BM):Int->Int->Int:=fun r f=>dL .registerTitle .int m (RT r f)
theorem EA {a b c e:Int}:RT a b=RT c e↔a=c/\b=e:=by simp[RT]
theorem Ar (m:BM)(r f v:Int):bk (fH .registerTitle .int m (RT r f) v)=fun r'=>if r'=r then iw (bk m r) f v else bk m r':=by
 funext r' f'
 unfold bk;rw[oo];by_cases h:r'=r
 ·subst h;rw[if_pos rfl];unfold iw;by_cases h2:f'=f
  ·subst h2;simp
  ·rw[if_neg (fun e=>h2 (EA.1 e).2),if_neg h2]
 ·rw[if_neg (fun e=>h (EA.1 e).1),if_neg h]
theorem N6 (m:BM)(hN:(gC m).Nodup)(r f:Int):bk (mG .registerTitle .int m (RT r f))=fun r'=>if r'=r then iw (bk m r) f 0 else bk m r':=by
 funext r' f'
 unfold bk dL mG;have e:=(t7 (RT r f) m hN).2.2 (RT r' f');have e':eM (tp m (RT r f)) (RT r' f')=if RT r' f'=RT r f then none else eM m (RT r' f'):=e;by_cases h:r'=r
 ·subst h;rw[if_pos rfl];unfold iw;by_cases h2:f'=f
  ·subst h2;rw[e',if_pos rfl,if_pos rfl];rfl
  ·rw[e',if_neg (fun e=>h2 (EA.1 e).2),if_neg h2]
 ·rw[if_neg h,e',if_neg (fun e=>h (EA.1 e).1)]
theorem Good.le30 {F:Nat}{L:Int}{g:Int->Int}(h:Good F L g)(hL:L<=2147483648)(f:Int):0<=g f/\g f<=2147483648:=by
 have h1:=h.nn f;by_cases e:g f=0
 ·omega
 ·obtain⟨a,b⟩:=h.sup f e;have:=Ap h.nn F f a b;have:=h.tot;omega
theorem FQ {d:District}{x:Deed}(hx:PartsOk d x.parts){n:Int}(h0:0<=n)(h1:n<=1073741824){m:BM}(hN:(gC m).Nodup){M:Int}(hM:M+n<=2147483648)(hg:Good d.farms.length M (bk m x.right)):
  dz x n m/\(gC (ca x n m)).Nodup/\bk (ca x n m)=fun r=>if r=x.right then xp x.parts n (bk m r)else bk m r:=by
 obtain⟨l1,l2⟩:=Ez hx n;obtain⟨⟨m1,lf⟩,e1,a1,a2,a3⟩:=sL (step:=bi x n) (fun k (s:BM×Int) =>(gC s.1).Nodup/\(bk s.1=fun r=>if r=x.right then sS (x.parts.take k) n (bk m r)else bk m r)/\s.2=n - c9 (x.parts.take k) n) x.parts.length 0 (m,n) ⟨hN,by funext r;by_cases h:r=x.right <;>simp[h,sS],by simp[c9]⟩ (fun j s _ hj ⟨j1,j2,j3⟩ =>by
  rw[Nat.zero_add]at hj;have hm:x.parts.getD j default∈x.parts:=by rw[jh _ _ hj];exact List.getElem_mem _
  obtain⟨f0,f1,f2,f3⟩:=hx.fit _ hm;have elo:(eF (x.parts.getD j default).share n).1=loP (x.parts.getD j default) n:=(Is f2 h0 h1).1;have hlo:=It f2 f3 h0;obtain⟨q1,q2⟩:=qq h0 (x.parts.take j) _ _ (hx.fit.take _) hg;have hs:∀ k,0<=c9 (x.parts.take k) n/\c9 (x.parts.take k) n<=c9 x.parts n:=fun k=>by
   have key:∀ l:List Part,PFit d.farms.length l->0<=c9 l n:=fun l=>by
    induction l with
    |nil=>intro _;simp[c9]
    |cons p r ih=>
     intro hp;obtain⟨_,_,c,e⟩:=hp p List.mem_cons_self;have:=It c e h0;have:=ih fun q hq=>hp q (List.mem_cons_of_mem _ hq);have e:c9 (p::r) n=loP p n+c9 r n:=by simp[c9]
     omega
   have h1:=key _ (hx.fit.take k);have h2:=key (x.parts.drop k) fun p hp=>hx.fit p (List.mem_of_mem_drop hp);have h3:c9 x.parts n=c9 (x.parts.take k) n+c9 (x.parts.drop k) n:=by
    conv=>lhs;rw[<-List.take_append_drop k x.parts]
    unfold c9;rw[List.map_append,List.sum_append]
   omega
  have hsj:=hs j;have hsj1:=hs (j+1);rw[cJ _ default hj,xq]at hsj1;have hv:=q1.le30 (by omega) (x.parts.getD j default).farm;have ebk:dL .registerTitle .int s.1 (RT x.right (x.parts.getD j default).farm)=sS (x.parts.take j) n (bk m x.right) (x.parts.getD j default).farm:=by
   have:=congrFun (congrFun j2 x.right) (x.parts.getD j default).farm;simpa[bk]using this
  refine⟨_,rfl,?_,?_,?_⟩
  ·exact(oq _ _ _ j1).1
  ·simp only[elo];rw[ebk,a8 (by omega) (by omega),Ar,j2];funext r
   by_cases h:r=x.right
   ·subst h;simp only[if_true];rw[cJ _ default hj,FP]
   ·simp only[if_neg h]
  ·simp only[elo,j3];rw[a8 (by omega) (by omega),cJ _ default hj,xq];omega)
 rw[Nat.zero_add,List.take_length]at a2 a3;simp only at a1 a2 a3;have hlf:0<=lf/\lf<=(x.parts.length:Int):=by omega
 obtain⟨q1,q2⟩:=qq h0 x.parts _ _ hx.fit hg;have tk:(x.parts.take lf.toNat).drop 0=x.parts.take lf.toNat:=by simp
 have tkl:(x.parts.take lf.toNat).length=lf.toNat:=by rw[List.length_take];omega
 obtain⟨m2,e2,b1,b2⟩:=sL (step:=eB x (m1,lf)) (fun k (s:BM) =>(gC s).Nodup/\(bk s=fun r=>if r=x.right then ot ((x.parts.take lf.toNat).take k) (sS x.parts n (bk m r))else bk m r)) lf.toNat 0 m1 ⟨a1,by rw[a2];funext r;by_cases h:r=x.right <;>simp[h,ot]⟩ (fun j s _ hj ⟨j1,j2⟩ =>by
  rw[Nat.zero_add]at hj;have hj':j< (x.parts.take lf.toNat).length:=by omega
  have hm:(x.parts.take lf.toNat).getD j default∈x.parts.take lf.toNat:=by rw[jh _ _ hj'];exact List.getElem_mem _
  obtain⟨r1,r2⟩:=rL ((x.parts.take lf.toNat).take j) _ _ ((hx.fit.take _).take _) q1;have hlen:((x.parts.take lf.toNat).take j).length=j:=by rw[List.length_take];omega
  have hv:=r1.le30 (by omega) ((x.parts.take lf.toNat).getD j default).farm;have ebk:dL .registerTitle .int s (RT x.right ((x.parts.take lf.toNat).getD j default).farm)=ot ((x.parts.take lf.toNat).take j) (sS x.parts n (bk m x.right)) ((x.parts.take lf.toNat).getD j default).farm:=by
   have:=congrFun (congrFun j2 x.right) ((x.parts.take lf.toNat).getD j default).farm;simpa[bk]using this
  refine⟨_,rfl,?_,?_⟩
  ·exact(oq _ _ _ j1).1
  ·simp only[tk];rw[ebk,a8 (by omega) (by omega),Ar,j2];funext r
   by_cases h:r=x.right
   ·subst h;simp only[if_true];rw[cJ _ default hj',Dv]
   ·simp only[if_neg h])
 rw[Nat.zero_add]at b2;have e2':aj (eB x (m1,lf)) ((x.parts.take lf.toNat).drop 0).length 0 m1=.inr m2:=by rw[tk,tkl];exact e2
 have eR:ca x n m=m2:=by
  unfold ca;rw[e1];simp only[e2']
 refine⟨fun _ z hz=>?_,?_,?_⟩
 ·rw[e1]at hz;cases hz;exact⟨by omega,hlf.1,hlf.2⟩
 ·rw[eR];exact b1
 ·rw[eR,b2];funext r
  by_cases h:r=x.right
  ·simp only[if_pos h];unfold xp;rw[<-a3,List.take_take,Nat.min_self]
  ·simp only[if_neg h]
end Go.Sx
end
