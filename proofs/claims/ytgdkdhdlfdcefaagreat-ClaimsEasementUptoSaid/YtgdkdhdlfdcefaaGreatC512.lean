/- Part of the proof that the law ClaimsEasement returns true and leaves its arguments as they were, for all arguments of bulk at most 1048576 (the Upto form). -/
import Derived.Test.YtgdkdhdlfdcefaaGreatC511
import Derived.Test.YtgdkdhdlfdcefaaGreatC510
import Derived.Test.YtgdkdhdlfdcefaaGreatC509
set_option linter.all false
set_option maxHeartbeats 4000000
set_option maxRecDepth 100000
section
namespace Go.Sx
open Go.Proofs
open IntKind (i64 u64)
theorem C_ (rec_:Int→Int→Int→List Deed→List Deed)(recp_:Int→Int→Int→List Deed→Prop)(A U C:List Deed)(x:Deed)(hU2:2≤U.length)(hl:(A++U++[x]++C).length<2 ^ 60)(hU:Srt U):
  oX rec_ recp_ (A.length:Int) ((A.length+U.length:Nat):Int) ((A.length+U.length+1:Nat):Int) (A++U++[x]++C)∧
  ∃ M,Ba rec_ recp_ (A.length:Int) ((A.length+U.length:Nat):Int) ((A.length+U.length+1:Nat):Int) (A++U++[x]++C)=A++M++C∧SameF (U++[x]) M∧Srt M∧M.length=U.length+1:=by
 have hL:(A++U++[x]++C).length=A.length+U.length+C.length+1:=by simp;omega
 have w1:i64.wrap (((A.length+U.length:Nat):Int) - (A.length:Int))=(U.length:Int):=by rw[bt (by omega) (by omega)];omega
 have w:i64.wrap (((A.length+U.length+1:Nat):Int) - ((A.length+U.length:Nat):Int))=1:=by rw[bt (by omega) (by omega)];omega
 have b1:((U.length:Int) ==1)=false:=by simp;omega
 have gx:(A++U++[x]++C).getD (A.length+U.length) default=x:=by
  have:A++U++[x]++C=(A++U)++x::C:=by simp
  rw[this];exact jm _ _ _ _ (by simp)
 have gU:∀ h,A.length≤h→h<A.length+U.length→(A++U++[x]++C).getD h default=U.getD (h - A.length) default:=fun h h1 h2=>by
  have:=tZ A U ([x]++C) default (h:=h) h1 h2;simpa using this
 have s:=ER (step:=jY ((A.length+U.length:Nat):Int) (A++U++[x]++C)) (p:=ml ((A.length+U.length:Nat):Int) (A++U++[x]++C)) (fun h=>!decide (x.at_< (U.getD (h - A.length) default).at_)) A.length (A.length+U.length) (by omega)
  (fun i j h1 h2 h3 h4=>by
   have:=lu hU (i:=i - A.length) (j:=j - A.length) (by omega) (by omega);simp only[Bool.not_eq_true',decide_eq_false_iff_not]at h4 ⊢;omega)
  (fun k i j h1 h2 h3=>by
   have e:decide ((i:Int) < (j:Int))=true:=by rw[decide_eq_true_eq];omega
   unfold ml jY;simp only[Gi (i:=i) (j:=j) (by omega) (by omega),e,cond_true,Int.toNat_natCast,gx,gU ((i+j) / 2) (by omega) (by omega),Gh,hL];have w2:i64.wrap ((((i+j) / 2:Nat):Int)+1)=(((i+j) / 2+1:Nat):Int):=by rw[bt (by omega) (by omega)];omega
   rw[w2];exact⟨fun _=>by omega,rfl⟩)
  (fun k i=>by
   have e:decide ((i:Int) < (i:Int))=false:=by simp
   unfold ml jY;simp only[e,cond_false];exact⟨fun h=>by simp at h,trivial⟩) ((A++U++[x]++C).length+1) 0 (by omega)
 obtain⟨s1,r,s2,q,rfl,q1,q2,q3,q4⟩:=s;have ht:(U.take (q - A.length)).length=q - A.length:=by rw[List.length_take];omega
 have hd:(U.drop (q - A.length)).length=U.length - (q - A.length):=List.length_drop;have hUs:U.take (q - A.length)++U.drop (q - A.length)=U:=List.take_append_drop _ _;have hd1:∀ y∈U.take (q - A.length),y.at_≤x.at_:=fun y hy=>by
  obtain⟨i,i1,i2,rfl⟩:=t6 hy;have:=q3 (A.length+i) (by omega) (by omega);simpa[show A.length+i - A.length=i by omega]using this
 have hd2:∀ y∈U.drop (q - A.length),x.at_<y.at_:=fun y hy=>by
  obtain⟨i,i1,i2,rfl⟩:=t7 hy;have:=q4 (A.length+i) (by omega) (by omega);simpa[show A.length+i - A.length=i by omega]using this
 generalize hV1:U.take (q - A.length)=V1 at *;generalize hV2:U.drop (q - A.length)=V2 at *;subst hUs;have eq:A++(V1++V2)++[x]++C=(A++V1)++V2++x::C:=by simp
 obtain⟨c1,r,c2,rfl⟩:=ES (A++V1) V2 C x (A++(V1++V2)++[x]++C) (by rw[←eq];omega) (by rw[eq]);have eqq:(((A++V1).length:Nat):Int)=(q:Int):=by rw[List.length_append,ht];omega
 have eqm:(((A++V1).length+V2.length:Nat):Int)=((A.length+(V1++V2).length:Nat):Int):=by simp only[List.length_append];omega
 rw[←eq,eqm,eqq]at c1 c2;unfold oX Ba;rw[w1,w];refine⟨⟨fun h=>(by rw[b1]at h;cases h),fun _=>⟨fun _=>⟨s1,vI (Q:=fun _=>True) ⟨_,s2,trivial⟩,fun z hz=>?_⟩,fun h=>by cases h⟩⟩,V1++[x]++V2,?_,?_,?_,?_⟩
 ·rw[s2]at hz;cases hz;exact⟨c1,vI (Q:=fun _=>True) ⟨_,c2,trivial⟩⟩
 ·rw[s2];simp only[b1,BEq.rfl,cond_true,cond_false];rw[c2];simp
 ·have h0:SameF (V2++[x]) ([x]++V2):=SameF.swap fun a ha b hb=>by simp at hb;subst hb;have:=hd2 a ha;omega
  simpa using (SameF.refl V1).app h0
 ·obtain⟨a1,a2,a3⟩:=wr hU;refine yk (yk a1 (List.pairwise_singleton _ _) fun y hy z hz=>?_) a2 fun y hy z hz=>?_
  ·simp at hz;subst hz;exact hd1 y hy
  ·rcases List.mem_append.1 hy with hy|hy
   ·exact a3 y hy z hz
   ·simp at hy;subst hy;exact Int.le_of_lt (hd2 z hz)
 ·simp;omega
def stI (x:Deed):List Deed→List Deed
 | [] =>[x]
 |y::r=>if x.at_≤y.at_ then x::y::r else y::stI x r
def stS:List Deed→List Deed
 | [] =>[]
 |x::r=>stI x (stS r)
theorem yl (x:Deed):∀ l,SameF (x::l) (stI x l)
 | [] =>SameF.refl _
 |y::r=>by
  unfold stI;by_cases h:x.at_≤y.at_
  ·rw[if_pos h];exact SameF.refl _
  ·rw[if_neg h];have h1:SameF ([x]++[y]++r) ([y]++[x]++r):=(SameF.swap fun a ha b hb=>by simp at ha hb;subst ha;subst hb;omega).app (SameF.refl r);exact h1.trans ((SameF.refl [y]).app (yl x r))
theorem SameF.symm {a b:List Deed}(h:SameF a b):SameF b a:=fun t=>(h t).symm
theorem SameF.mem {a b:List Deed}(h:SameF a b){x:Deed}(hx:x∈a):x∈b:=by
 have:x∈a.filter fun y=>y.at_==x.at_:=by rw[List.mem_filter];exact⟨hx,by simp⟩
 rw[h x.at_]at this;exact(List.mem_filter.1 this).1
theorem SameF.mem_iff {a b:List Deed}(h:SameF a b){x:Deed}:x∈a↔x∈b:=⟨h.mem,h.symm.mem⟩
theorem Gj (x:Deed):∀ l,Srt l→Srt (stI x l)
 | [],_=>List.pairwise_singleton _ _
 |y::r,h=>by
  unfold stI;have h':=List.pairwise_cons.1 h;by_cases hc:x.at_≤y.at_
  ·rw[if_pos hc];exact List.pairwise_cons.2 ⟨fun z hz=>by
    rcases List.mem_cons.1 hz with rfl|hz
    ·exact hc
    ·exact Int.le_trans hc (h'.1 z hz),h⟩
  ·rw[if_neg hc];refine List.pairwise_cons.2 ⟨fun z hz=>?_,Gj x r h'.2⟩;have:=(yl x r).symm.mem hz;rcases List.mem_cons.1 this with rfl|hz'
   ·omega
   ·exact h'.1 z hz'
theorem qM:∀ l,SameF l (stS l)
 | [] =>SameF.refl _
 |x::r=>((SameF.refl [x]).app (qM r)).trans (yl x _)
theorem Br:∀ l,Srt (stS l)
 | [] =>List.Pairwise.nil
 |x::r=>Gj x _ (Br r)
theorem vJ:∀ {a b:List Deed},Srt a→Srt b→SameF a b→a=b
 | [],[],_,_,_=>rfl
 | [],y::b,_,_,h=>absurd (h.symm.mem (List.mem_cons_self)) (by simp)
 |x::a,[],_,_,h=>absurd (h.mem (List.mem_cons_self)) (by simp)
 |x::a,y::b,ha,hb,h=>by
  have ha':=List.pairwise_cons.1 ha;have hb':=List.pairwise_cons.1 hb;have e:x.at_=y.at_:=by
   have h1:=h.mem (List.mem_cons_self (a:=x) (l:=a));have h2:=h.symm.mem (List.mem_cons_self (a:=y) (l:=b));have q1:y.at_≤x.at_:=by
    rcases List.mem_cons.1 h1 with e|h1
    ·rw[e];exact Int.le_refl _
    ·exact hb'.1 x h1
   have q2:x.at_≤y.at_:=by
    rcases List.mem_cons.1 h2 with e|h2
    ·rw[e];exact Int.le_refl _
    ·exact ha'.1 y h2
   omega
  have h0:=h x.at_;have ey:(y.at_==x.at_)=true:=by simp[e]
  have ex:(x.at_==x.at_)=true:=by simp
  simp only[List.filter_cons,ex,ey,if_true]at h0;obtain⟨exy,htl⟩:=List.cons.inj h0;subst exy;have:SameF a b:=fun t=>by
   have ht:=h t;simp only[List.filter_cons]at ht;by_cases hc:(x.at_==t)=true
   ·rw[if_pos hc,if_pos hc]at ht;exact(List.cons.inj ht).2
   ·rw[if_neg hc,if_neg hc]at ht;exact ht
  rw[vJ ha'.2 hb'.2 this]
theorem ym {a b:List Deed}(h:SameF a b)(hb:Srt b):b=stS a:=vJ hb (Br a) (h.symm.trans (qM a))
theorem SameF.filter {a b:List Deed}(p:Deed→Bool)(h:SameF a b):SameF (a.filter p) (b.filter p):=fun t=>by
 rw[List.filter_filter,List.filter_filter,List.filter_congr (q:=fun x=>p x&&(x.at_==t)) fun x _=>Bool.and_comm _ _,←List.filter_filter,h t,List.filter_filter,List.filter_congr (p:=fun x=>p x&&(x.at_==t)) (q:=fun x=>(x.at_==t)&&p x) fun x _=>Bool.and_comm _ _]
theorem MV {l:List Deed}{x:Deed}:x∈stS l↔x∈l:=(qM l).symm.mem_iff
theorem Ut {c1 c2 c3:Bool}{l rot:List Deed}(f1 f2:List Deed→List Deed):
  (bif c1 then(bif c2 then(bif c3 then f2 (f1 rot)else f1 rot)else(bif c3 then f2 rot else rot))else(bif c2 then(bif c3 then f2 (f1 l)else f1 l)else(bif c3 then f2 l else l)))=(bif c3 then f2 (bif c2 then f1 (bif c1 then rot else l)else(bif c1 then rot else l))else(bif c2 then f1 (bif c1 then rot else l)else(bif c1 then rot else l))):=by
 cases c1 <;>cases c2 <;>cases c3 <;>rfl
theorem P0 {c1 c2 c3:Bool}{l rot:List Deed}{rp:Prop}(f1:List Deed→List Deed)(p1 p2:List Deed→Prop)(h1:c1=true→rp)(h2:c2=true→p1 (bif c1 then rot else l))(h3:c3=true→p2 (bif c2 then f1 (bif c1 then rot else l)else(bif c1 then rot else l))):
  ((c1=true→(rp∧((c2=true→(p1 rot∧(c3=true→p2 (f1 rot))))∧(c2=false→c3=true→p2 rot))))∧(c1=false→((c2=true→(p1 l∧(c3=true→p2 (f1 l))))∧(c2=false→c3=true→p2 l)))):=by
 cases c1 <;>cases c2 <;>cases c3 <;>simp_all
theorem EU {N:Nat}{rec_:Int→Int→Int→List Deed→List Deed}{recp_:Int→Int→Int→List Deed→Prop}(hr:NW N rec_ recp_)(A U V C:List Deed)(hU2:2≤U.length)(hV2:2≤V.length)(hN:U.length+V.length≤N+1)(hl:(A++U++V++C).length<2 ^ 60)(hU:Srt U)(hV:Srt V):
  oX rec_ recp_ (A.length:Int) ((A.length+U.length:Nat):Int) ((A.length+U.length+V.length:Nat):Int) (A++U++V++C)∧
  ∃ M,Ba rec_ recp_ (A.length:Int) ((A.length+U.length:Nat):Int) ((A.length+U.length+V.length:Nat):Int) (A++U++V++C)=A++M++C∧SameF (U++V) M∧Srt M∧M.length=U.length+V.length:=by
 have hL:(A++U++V++C).length=A.length+U.length+V.length+C.length:=by simp[Nat.add_assoc]
 have gU:∀ h,A.length≤h→h<A.length+U.length→(A++U++V++C).getD h default=U.getD (h - A.length) default:=fun h h1 h2=>by
  have:=tZ A U (V++C) default (h:=h) h1 h2;simpa using this
 have gV:∀ h,A.length+U.length≤h→h<A.length+U.length+V.length→(A++U++V++C).getD h default=V.getD (h - (A.length+U.length)) default:=fun h h1 h2=>by
  have:=tZ (A++U) V C default (h:=h) (by simp;omega) (by simp;omega);simpa using this
 have hmid:i64.wrap (br .u64 (u64.wrap (i64.wrap ((A.length:Int)+((A.length+U.length+V.length:Nat):Int)))) 1)=((A.length+(U.length+V.length) / 2:Nat):Int):=by
  rw[Gi (by omega) (by omega)];omega
 generalize hmd:A.length+(U.length+V.length) / 2=mid at *;have hn:i64.wrap ((mid:Int)+((A.length+U.length:Nat):Int))=((mid+(A.length+U.length):Nat):Int):=by rw[bt (by omega) (by omega)];omega
 have hp1:i64.wrap (((mid+(A.length+U.length):Nat):Int) - 1)=((mid+(A.length+U.length) - 1:Nat):Int):=by rw[bt (by omega) (by omega)];omega
 have w1:i64.wrap (((A.length+U.length:Nat):Int) - (A.length:Int))=(U.length:Int):=by rw[bt (by omega) (by omega)];omega
 have w2:i64.wrap (((A.length+U.length+V.length:Nat):Int) - ((A.length+U.length:Nat):Int))=(V.length:Int):=by rw[bt (by omega) (by omega)];omega
 have b1:((U.length:Int) ==1)=false:=by simp;omega
 have b2:((V.length:Int) ==1)=false:=by simp;omega
 obtain⟨lo,elo,hlo⟩:∃ lo:Nat,(bif decide (((A.length+U.length:Nat):Int) > (mid:Int))then i64.wrap (((mid+(A.length+U.length):Nat):Int) - ((A.length+U.length+V.length:Nat):Int))else(A.length:Int))=(lo:Int)∧((mid<A.length+U.length∧lo+V.length=mid)∨(A.length+U.length≤mid∧lo=A.length)):=by
  by_cases h:mid<A.length+U.length
  ·refine⟨mid - V.length,?_,.inl ⟨h,by omega⟩⟩;rw[decide_eq_true (by omega),cond_true,bt (by omega) (by omega)];omega
  ·refine⟨A.length,?_,.inr ⟨by omega,rfl⟩⟩;rw[decide_eq_false (by omega),cond_false]
 obtain⟨hi,ehi,hhi⟩:∃ hi:Nat,(bif decide (((A.length+U.length:Nat):Int) > (mid:Int))then(mid:Int)else((A.length+U.length:Nat):Int))=(hi:Int)∧((mid<A.length+U.length∧hi=mid)∨(A.length+U.length≤mid∧hi=A.length+U.length)):=by
  by_cases h:mid<A.length+U.length
  ·exact⟨mid,by rw[decide_eq_true (by omega),cond_true],.inl ⟨h,rfl⟩⟩
  ·exact⟨A.length+U.length,by rw[decide_eq_false (by omega),cond_false],.inr ⟨by omega,rfl⟩⟩
 have s:=ER (step:=nv (A.length:Int) ((A.length+U.length:Nat):Int) ((A.length+U.length+V.length:Nat):Int) (A++U++V++C)) (p:=mm (A.length:Int) ((A.length+U.length:Nat):Int) ((A.length+U.length+V.length:Nat):Int) (A++U++V++C)) (fun c=>!decide ((V.getD (mid - 1 - c) default).at_< (U.getD (c - A.length) default).at_)) lo hi (by omega)
  (fun i j h1 h2 h3 h4=>by
   have q1:=lu hU (i:=i - A.length) (j:=j - A.length) (by omega) (by omega);have q2:=lu hV (i:=mid - 1 - j) (j:=mid - 1 - i) (by omega) (by omega);simp only[Bool.not_eq_true',decide_eq_false_iff_not]at h4 ⊢;omega)
  (fun k i j h1 h2 h3=>by
   have e:decide ((i:Int) < (j:Int))=true:=by rw[decide_eq_true_eq];omega
   have hc:i64.wrap (((mid+(A.length+U.length) - 1:Nat):Int) - (((i+j) / 2:Nat):Int))=((mid+(A.length+U.length) - 1 - (i+j) / 2:Nat):Int):=by rw[bt (by omega) (by omega)];omega
   have e2:mid+(A.length+U.length) - 1 - (i+j) / 2 - (A.length+U.length)=mid - 1 - (i+j) / 2:=by omega
   unfold mm nv;simp only[hmid,hn,hp1,Gi (i:=i) (j:=j) (by omega) (by omega),e,cond_true,hc,Int.toNat_natCast,gU ((i+j) / 2) (by omega) (by omega),gV (mid+(A.length+U.length) - 1 - (i+j) / 2) (by omega) (by omega),e2,Gh,hL];have w2:i64.wrap ((((i+j) / 2:Nat):Int)+1)=(((i+j) / 2+1:Nat):Int):=by rw[bt (by omega) (by omega)];omega
   rw[w2];exact⟨fun _=>by omega,rfl⟩)
  (fun k i=>by
   have e:decide ((i:Int) < (i:Int))=false:=by simp
   unfold mm nv;simp only[e,cond_false];exact⟨fun h=>by simp at h,trivial⟩) ((A++U++V++C).length+1) 0 (by omega)
 obtain⟨s1,r,s2,q,rfl,q1,q2,q3,q4⟩:=s;have hend:i64.wrap (((mid+(A.length+U.length):Nat):Int) - (q:Int))=((mid+(A.length+U.length) - q:Nat):Int):=by rw[bt (by omega) (by omega)];omega
 have hUs:U.take (q - A.length)++U.drop (q - A.length)=U:=List.take_append_drop _ _;have hVs:V.take (mid - q)++V.drop (mid - q)=V:=List.take_append_drop _ _;have lU1:(U.take (q - A.length)).length=q - A.length:=by rw[List.length_take];omega
 have lU2:(U.drop (q - A.length)).length=A.length+U.length - q:=by rw[List.length_drop];omega
 have lV1:(V.take (mid - q)).length=mid - q:=by rw[List.length_take];omega
 have lV2:(V.drop (mid - q)).length=V.length+q - mid:=by rw[List.length_drop];omega
 have k1:∀ x∈U.take (q - A.length),∀ y∈V.drop (mid - q),x.at_≤y.at_:=fun x hx y hy=>by
  obtain⟨i,i1,i2,rfl⟩:=t6 hx;obtain⟨j,j1,j2,rfl⟩:=t7 hy;have:=q3 (q - 1) (by omega) (by omega);have p1:=lu hU (i:=i) (j:=q - 1 - A.length) (by omega) (by omega);have p2:=lu hV (i:=mid - 1 - (q - 1)) (j:=j) (by omega) (by omega);simp only[Bool.not_eq_true',decide_eq_false_iff_not]at this;omega
 have k2:∀ x∈U.drop (q - A.length),∀ y∈V.take (mid - q),y.at_<x.at_:=fun x hx y hy=>by
  obtain⟨i,i1,i2,rfl⟩:=t7 hx;obtain⟨j,j1,j2,rfl⟩:=t6 hy;have:=q4 q (by omega) (by omega);have p1:=lu hU (i:=q - A.length) (j:=i) (by omega) (by omega);have p2:=lu hV (i:=j) (j:=mid - 1 - q) (by omega) (by omega);simp only[Bool.not_eq_false',decide_eq_true_eq]at this;omega
 generalize hE1:U.take (q - A.length)=U1 at *;generalize hE2:U.drop (q - A.length)=U2 at *;generalize hE3:V.take (mid - q)=V1 at *;generalize hE4:V.drop (mid - q)=V2 at *;have lenU:U.length=U1.length+U2.length:=by rw[←hUs,List.length_append]
 have lenV:V.length=V1.length+V2.length:=by rw[←hVs,List.length_append]
 have hlist:A++U++V++C=A++U1++U2++V1++(V2++C):=by rw[←hUs,←hVs];simp
 obtain⟨sU1,sU2,sU⟩:=wr (by rw[hUs];exact hU:Srt (U1++U2));obtain⟨sV1,sV2,sV⟩:=wr (by rw[hVs];exact hV:Srt (V1++V2));have hrot:(decide ((q:Int) < ((A.length+U.length:Nat):Int))&&decide (((A.length+U.length:Nat):Int) < ((mid+(A.length+U.length) - q:Nat):Int)))=true→bj (q:Int) ((A.length+U.length:Nat):Int) ((mid+(A.length+U.length) - q:Nat):Int) (A++U++V++C)∧av (q:Int) ((A.length+U.length:Nat):Int) ((mid+(A.length+U.length) - q:Nat):Int) (A++U++V++C)=A++U1++V1++(U2++V2++C):=fun h=>by
  simp only[Bool.and_eq_true,decide_eq_true_eq]at h;have:=HK (A++U1) U2 V1 (V2++C) (by rw[←List.length_pos_iff];omega) (by rw[←List.length_pos_iff];omega) (by rw[←hlist];omega);have e1:(((A++U1).length:Nat):Int)=(q:Int):=by rw[List.length_append];omega
  have e2:(((A++U1).length+U2.length:Nat):Int)=((A.length+U.length:Nat):Int):=by rw[List.length_append];omega
  have e3:(((A++U1).length+U2.length+V1.length:Nat):Int)=((mid+(A.length+U.length) - q:Nat):Int):=by rw[List.length_append];omega
  rw[←hlist,e1,e2,e3]at this;refine⟨this.1,this.2.trans (by simp)⟩
 have hl1:(bif(decide ((q:Int) < ((A.length+U.length:Nat):Int))&&decide (((A.length+U.length:Nat):Int) < ((mid+(A.length+U.length) - q:Nat):Int)))then av (q:Int) ((A.length+U.length:Nat):Int) ((mid+(A.length+U.length) - q:Nat):Int) (A++U++V++C)else A++U++V++C)=A++U1++V1++(U2++V2++C):=by
  cases hc:(decide ((q:Int) < ((A.length+U.length:Nat):Int))&&decide (((A.length+U.length:Nat):Int) < ((mid+(A.length+U.length) - q:Nat):Int)))with
  |true=>rw[cond_true,(hrot hc).2]
  |false=>
   rw[cond_false,hlist];simp only[Bool.and_eq_false_iff,decide_eq_false_iff_not]at hc;have:U2=[]∨V1=[]:=by
    rcases hc with hc|hc
    ·exact .inl (List.eq_nil_of_length_eq_zero (by omega))
    ·exact .inr (List.eq_nil_of_length_eq_zero (by omega))
   rcases this with rfl|rfl <;>simp
 obtain⟨M1,hM1p,hM1,f1,t1,l1⟩:∃ M1,((decide ((A.length:Int) < (q:Int))&&decide ((q:Int) < (mid:Int)))=true→recp_ (A.length:Int) (q:Int) (mid:Int) (A++U1++V1++(U2++V2++C)))∧(bif(decide ((A.length:Int) < (q:Int))&&decide ((q:Int) < (mid:Int)))then rec_ (A.length:Int) (q:Int) (mid:Int) (A++U1++V1++(U2++V2++C))else A++U1++V1++(U2++V2++C))=A++M1++(U2++V2++C)∧SameF (U1++V1) M1∧Srt M1∧M1.length=U1.length+V1.length:=by
  cases hc:(decide ((A.length:Int) < (q:Int))&&decide ((q:Int) < (mid:Int)))with
  |true=>
   simp only[Bool.and_eq_true,decide_eq_true_eq]at hc;obtain⟨h1,M1,h2,h3,h4,h5⟩:=hr A U1 V1 (U2++V2++C) (by rw[←List.length_pos_iff];omega) (by rw[←List.length_pos_iff];omega) (by omega) (by simp only[List.length_append]at hl ⊢;omega) sU1 sV1;have e1:((A.length+U1.length:Nat):Int)=(q:Int):=by omega
   have e2:((A.length+U1.length+V1.length:Nat):Int)=(mid:Int):=by omega
   rw[e1,e2]at h1 h2;exact⟨M1,fun _=>h1,h2,h3,h4,h5⟩
  |false=>
   simp only[Bool.and_eq_false_iff,decide_eq_false_iff_not]at hc;refine⟨U1++V1,(fun h=>by cases h),by simp,SameF.refl _,?_,List.length_append⟩;have:U1=[]∨V1=[]:=by
    rcases hc with hc|hc
    ·exact .inl (List.eq_nil_of_length_eq_zero (by omega))
    ·exact .inr (List.eq_nil_of_length_eq_zero (by omega))
   rcases this with rfl|rfl
   ·exact sV1
   ·simpa using sU1
 obtain⟨M2,hM2p,hM2,f2,t2,l2⟩:∃ M2,((decide ((mid:Int) < ((mid+(A.length+U.length) - q:Nat):Int))&&decide (((mid+(A.length+U.length) - q:Nat):Int) < ((A.length+U.length+V.length:Nat):Int)))=true→recp_ (mid:Int) ((mid+(A.length+U.length) - q:Nat):Int) ((A.length+U.length+V.length:Nat):Int) (A++M1++(U2++V2++C)))∧(bif(decide ((mid:Int) < ((mid+(A.length+U.length) - q:Nat):Int))&&decide (((mid+(A.length+U.length) - q:Nat):Int) < ((A.length+U.length+V.length:Nat):Int)))then rec_ (mid:Int) ((mid+(A.length+U.length) - q:Nat):Int) ((A.length+U.length+V.length:Nat):Int) (A++M1++(U2++V2++C))else A++M1++(U2++V2++C))=A++M1++M2++C∧SameF (U2++V2) M2∧Srt M2∧M2.length=U2.length+V2.length:=by
  cases hc:(decide ((mid:Int) < ((mid+(A.length+U.length) - q:Nat):Int))&&decide (((mid+(A.length+U.length) - q:Nat):Int) < ((A.length+U.length+V.length:Nat):Int)))with
  |true=>
   simp only[Bool.and_eq_true,decide_eq_true_eq]at hc;obtain⟨h1,M2,h2,h3,h4,h5⟩:=hr (A++M1) U2 V2 C (by rw[←List.length_pos_iff];omega) (by rw[←List.length_pos_iff];omega) (by omega) (by simp only[List.length_append]at hl ⊢;omega) sU2 sV2;have e0:(((A++M1).length:Nat):Int)=(mid:Int):=by rw[List.length_append];omega
   have e1:(((A++M1).length+U2.length:Nat):Int)=((mid+(A.length+U.length) - q:Nat):Int):=by rw[List.length_append];omega
   have e2:(((A++M1).length+U2.length+V2.length:Nat):Int)=((A.length+U.length+V.length:Nat):Int):=by rw[List.length_append];omega
   have e3:A++M1++U2++V2++C=A++M1++(U2++V2++C):=by simp
   rw[e0,e1,e2,e3]at h1 h2;exact⟨M2,fun _=>h1,h2,h3,h4,h5⟩
  |false=>
   simp only[Bool.and_eq_false_iff,decide_eq_false_iff_not]at hc;refine⟨U2++V2,(fun h=>by cases h),by simp,SameF.refl _,?_,List.length_append⟩;have:U2=[]∨V2=[]:=by
    rcases hc with hc|hc
    ·exact .inl (List.eq_nil_of_length_eq_zero (by omega))
    ·exact .inr (List.eq_nil_of_length_eq_zero (by omega))
   rcases this with rfl|rfl
   ·exact sV2
   ·simpa using sU2
 unfold oX Ba;simp only[w1,w2,b1,b2,hmid,hn,elo,ehi,s2,hend,cond_false];refine⟨⟨(fun h=>by cases h),fun _=>⟨(fun h=>by cases h),fun _=>⟨s1,(fun z h=>by cases h),fun z hz=>?_⟩⟩⟩,M1++M2,?_,?_,?_,?_⟩
 ·cases hz;simp only[hend];exact P0 (fun l=>rec_ (A.length:Int) (q:Int) (mid:Int) l) (fun l=>recp_ (A.length:Int) (q:Int) (mid:Int) l) (fun l=>recp_ (mid:Int) ((mid+(A.length+U.length) - q:Nat):Int) ((A.length+U.length+V.length:Nat):Int) l) (fun h=>(hrot h).1) (fun h=>by rw[hl1];exact hM1p h) (fun h=>by rw[hl1];simp only[hM1];exact hM2p h)
 ·refine(Ut (fun l=>rec_ (A.length:Int) (q:Int) (mid:Int) l) (fun l=>rec_ (mid:Int) ((mid+(A.length+U.length) - q:Nat):Int) ((A.length+U.length+V.length:Nat):Int) l)).trans ?_;rw[hl1];simp only[hM1];rw[hM2];simp
 ·have h0:SameF (U2++V1) (V1++U2):=SameF.swap fun a ha b hb=>by have:=k2 a ha b hb;omega
  have h1:SameF (U++V) (U1++V1++(U2++V2)):=by
   rw[←hUs,←hVs];have:=((SameF.refl U1).app h0).app (SameF.refl V2);simpa using this
  exact h1.trans (f1.app f2)
 ·refine yk t1 t2 fun x hx y hy=>?_;have hx:=f1.symm.mem hx;have hy:=f2.symm.mem hy;rcases List.mem_append.1 hx with hx|hx <;>rcases List.mem_append.1 hy with hy|hy
  ·exact sU x hx y hy
  ·exact k1 x hx y hy
  ·exact Int.le_of_lt (k2 y hy x hx)
  ·exact sV x hx y hy
 ·rw[List.length_append];omega
theorem Da:∀ n,NW n (kP n).1 (kP n).2
 |0=>fun A U V C hU hV h=>absurd (List.length_pos_iff.2 hU) (by omega)
 |n+1=>fun A U V C hU hV hN hl sU sV=>by
  have pU:=List.length_pos_iff.2 hU;have pV:=List.length_pos_iff.2 hV;by_cases h1:U.length=1
  ·obtain⟨x,rfl⟩:=List.length_eq_one_iff.1 h1;exact ET _ _ A V C x hl sV
  ·by_cases h2:V.length=1
   ·obtain⟨x,rfl⟩:=List.length_eq_one_iff.1 h2;exact C_ _ _ A U C x (by omega) hl sU
   ·exact EU (Da n) A U V C (by omega) (by omega) hN hl sU sV
theorem Kb (A U V C:List Deed)(hU:U≠[])(hV:V≠[])(hl:(A++U++V++C).length<2 ^ 60)(sU:Srt U)(sV:Srt V):
  bM (A.length:Int) ((A.length+U.length:Nat):Int) ((A.length+U.length+V.length:Nat):Int) (A++U++V++C)∧
  ∃ M,bW (A.length:Int) ((A.length+U.length:Nat):Int) ((A.length+U.length+V.length:Nat):Int) (A++U++V++C)=A++M++C∧SameF (U++V) M∧Srt M∧M.length=U.length+V.length:=
 Da ((A++U++V++C).length+1) A U V C hU hV (by simp only[List.length_append];omega) hl sU sV
inductive Blk (n:Nat):List Deed→Prop
 |last {l:List Deed}:l.length≤n→Srt l→Blk n l
 |cons {b l:List Deed}:b.length=n→Srt b→Blk n l→Blk n (b++l)
inductive Full (n:Nat):List Deed→Prop
 |nil:Full n []
 |snoc {l b:List Deed}:Full n l→b.length=n→Srt b→Full n (l++b)
theorem Full.app {n:Nat}{a:List Deed}(h:Full n a):∀ {l:List Deed},Blk n l→Blk n (a++l):=by
 induction h with
 |nil=>exact fun h=>h
 |snoc _ hb hs ih=>exact fun h=>by rw[List.append_assoc];exact ih (.cons hb hs h)
theorem Blk.srt {n:Nat}{l:List Deed}(h:Blk n l)(hl:l.length≤n):Srt l:=by
 cases h with
 |last _ hs=>exact hs
 | @cons b r hb hs h=>
  rw[List.length_append]at hl;have:=List.eq_nil_of_length_eq_zero (show r.length=0 by omega);subst this;simpa using hs
theorem Blk.split {n:Nat}{l:List Deed}(h:Blk n l)(hl:n≤l.length):∃ b r,l=b++r∧b.length=n∧Srt b∧Blk n r:=by
 cases h with
 |last h1 hs=>exact⟨l,[],by simp,by omega,hs,.last (Nat.zero_le _) List.Pairwise.nil⟩
 |cons hb hs h=>exact⟨_,_,rfl,hb,hs,h⟩
theorem rb {a b:List Deed}(h:SameF a b):a.length=b.length:=by
 have e:∀ {l:List Deed},stS l=l∨True:=fun {_} =>.inr trivial;have h1:∀ l:List Deed,(stS l).length=l.length:=fun l=>by
  induction l with
  |nil=>rfl
  |cons x r ih=>
   have:∀ l:List Deed,(stI x l).length=l.length+1:=fun l=>by
    induction l with
    |nil=>rfl
    |cons y l ih2=>
     unfold stI;by_cases hc:x.at_≤y.at_
     ·rw[if_pos hc];simp
     ·rw[if_neg hc];simp[ih2]
   show(stI x (stS r)).length=_;rw[this,ih];rfl
 rw[←h1 a,←h1 b,ym (h.trans (qM b)) (Br b)]
theorem z7 (l:List Deed)(hl:l.length<2 ^ 58):bA (l.length:Int) l∧bN (l.length:Int) l=stS l:=by
 obtain⟨k1,r,k2,D,R,rfl,k3,k4,k5,k6⟩:okI (aJ (l.length:Int)) (cb (l.length:Int)) (Int.toNat (l.length:Int)+1) 0 (l,0,20)∧∃ r,aq (aJ (l.length:Int)) (Int.toNat (l.length:Int)+1) 0 (l,0,20)=.inl r∧∃ D R,r=(((D.length:Nat):Int),D++R)∧Full 20 D∧SameF l (D++R)∧R.length<20∧l.length=D.length+R.length:=by
  refine wb (fun s:List Deed×Int×Int=>((l.length:Int) - s.2.1).toNat) (fun s:List Deed×Int×Int=>∃ D R,s=(D++R,((D.length:Nat):Int),((D.length+20:Nat):Int))∧Full 20 D∧SameF l (D++R)∧l.length=D.length+R.length) _ ?_ _ _ _ ⟨[],l,rfl,.nil,SameF.refl _,by simp⟩ (by simp only[Int.toNat_natCast];omega);rintro k s ⟨D,R,rfl,hD,hF,hlen⟩;unfold cb aJ;by_cases h:20≤R.length
  ·have e:decide (((D.length+20:Nat):Int)≤(l.length:Int))=true:=by rw[decide_eq_true_eq];omega
   have hRs:R.take 20++R.drop 20=R:=List.take_append_drop _ _;have hRt:(R.take 20).length=20:=by rw[List.length_take];omega
   have hRd:(R.drop 20).length=R.length - 20:=List.length_drop;have hi:=z6 D (R.take 20) (R.drop 20) (by simp only[List.length_append];omega);rw[List.append_assoc D,hRs,hRt]at hi;obtain⟨i1,M,i2,i3,i4⟩:=hi;have hM:=rb i3;have w:i64.wrap (((D.length+20:Nat):Int)+20)=(((D++M).length+20:Nat):Int):=by rw[bt (by omega) (by omega),List.length_append];omega
   simp only[e,cond_true,w];refine⟨fun _=>i1,.inr ⟨_,rfl,by simp only;omega,D++M,R.drop 20,?_,hD.snoc (by omega) i4,?_,by rw[List.length_append];omega⟩⟩
   ·rw[i2];have:((D.length+20:Nat):Int)=(((D++M).length:Nat):Int):=by rw[List.length_append];omega
    rw[this]
   ·refine hF.trans ?_;have:=((SameF.refl D).app (i3.app (SameF.refl (R.drop 20))));rw[hRs]at this;simpa using this
  ·have e:decide (((D.length+20:Nat):Int)≤(l.length:Int))=false:=by rw[decide_eq_false_iff_not];omega
   simp only[e,cond_false];exact⟨(fun h=>by cases h),.inl ⟨_,rfl,D,R,rfl,hD,hF,by omega,hlen⟩⟩
 have hi:=z6 D R [] (by simp only[List.length_append,List.length_nil];omega);have eN:((D.length+R.length:Nat):Int)=(l.length:Int):=by omega
 rw[List.append_nil,eN]at hi;obtain⟨i1,M,i2,i3,i4⟩:=hi;rw[List.append_nil]at i2;have hM:=rb i3;have hB0:Blk 20 (D++M):=k3.app (.last (by omega) i4);have hF0:SameF l (D++M):=k4.trans ((SameF.refl D).app i3);obtain⟨m1,r,m2,m3,m4⟩:okI (bh (l.length:Int)) (bJ (l.length:Int)) (Int.toNat (l.length:Int)+1) 0 (D++M,20)∧∃ r,aq (bh (l.length:Int)) (Int.toNat (l.length:Int)+1) 0 (D++M,20)=.inl r∧SameF l r∧Srt r:=by
  refine wb (fun s:List Deed×Int=>((l.length:Int) - s.2).toNat) (fun s:List Deed×Int=>∃ (L:List Deed) (n:Nat),s=(L,(n:Int))∧20≤n∧n<2 ^ 59∧Blk n L∧SameF l L) _ ?_ _ _ _ ⟨D++M,20,rfl,Nat.le_refl _,by omega,hB0,hF0⟩ (by simp only[Int.toNat_natCast];omega);rintro k s ⟨L,n,rfl,hn,hn2,hB,hF⟩;have hLl:=rb hF;by_cases h:n<l.length
  ·have e:decide ((n:Int) < (l.length:Int))=true:=by rw[decide_eq_true_eq];omega
   have w2:i64.wrap (2*(n:Int))=((2*n:Nat):Int):=by rw[bt (by omega) (by omega)];omega
   have w2':i64.wrap ((n:Int)*2)=((2*n:Nat):Int):=by rw[bt (by omega) (by omega)];omega
   obtain⟨p1,r,p2,D,R,rfl,p3,p4,p5,p6,p7⟩:okI (bg (l.length:Int) (L,(n:Int))) (cd (l.length:Int) (L,(n:Int))) (Int.toNat (l.length:Int)+1) 0 (L,0,((2*n:Nat):Int))∧∃ r,aq (bg (l.length:Int) (L,(n:Int))) (Int.toNat (l.length:Int)+1) 0 (L,0,((2*n:Nat):Int))=.inl r∧∃ D R,r=(((D.length:Nat):Int),D++R)∧Full (2*n) D∧Blk n R∧SameF l (D++R)∧R.length<2*n∧l.length=D.length+R.length:=by
    refine wb (fun s:List Deed×Int×Int=>((l.length:Int) - s.2.1).toNat) (fun s:List Deed×Int×Int=>∃ D R,s=(D++R,((D.length:Nat):Int),((D.length+2*n:Nat):Int))∧Full (2*n) D∧Blk n R∧SameF l (D++R)∧l.length=D.length+R.length) _ ?_ _ _ _ ⟨[],L,by simp,.nil,hB,hF,by simpa using hLl⟩ (by simp only[Int.toNat_natCast];omega);rintro k s ⟨D,R,rfl,hD,hR,hF,hlen⟩;unfold cd bg;by_cases h:2*n≤R.length
    ·have e:decide (((D.length+2*n:Nat):Int)≤(l.length:Int))=true:=by rw[decide_eq_true_eq];omega
     obtain⟨B1,R1,rfl,b1,b2,b3⟩:=hR.split (by omega);rw[List.length_append]at h hlen;obtain⟨B2,R2,rfl,c1,c2,c3⟩:=b3.split (by omega);rw[List.length_append]at h hlen;obtain⟨i1,M,i2,i3,i4,i5⟩:=Kb D B1 B2 R2 (by rw[←List.length_pos_iff];omega) (by rw[←List.length_pos_iff];omega) (by simp only[List.length_append];omega) b2 c2;have e0:D++B1++B2++R2=D++(B1++(B2++R2)):=by simp
     have e1:((D.length+B1.length+B2.length:Nat):Int)=((D.length+2*n:Nat):Int):=by omega
     have e2:i64.wrap ((D.length:Int)+(n:Int))=((D.length+B1.length:Nat):Int):=by rw[bt (by omega) (by omega)];omega
     rw[e0,e1]at i1 i2;have w:i64.wrap (((D.length+2*n:Nat):Int)+((2*n:Nat):Int))=(((D++M).length+2*n:Nat):Int):=by rw[bt (by omega) (by omega),List.length_append];omega
     simp only[e,cond_true,e2,w2,w];refine⟨fun _=>i1,.inr ⟨_,rfl,by simp only;omega,D++M,R2,?_,hD.snoc (by omega) i4,c3,?_,by rw[List.length_append];omega⟩⟩
     ·rw[i2];have:((D.length+2*n:Nat):Int)=(((D++M).length:Nat):Int):=by rw[List.length_append];omega
      rw[this]
     ·refine hF.trans ?_;have:=(SameF.refl D).app (i3.app (SameF.refl R2));simpa using this
    ·have e:decide (((D.length+2*n:Nat):Int)≤(l.length:Int))=false:=by rw[decide_eq_false_iff_not];omega
     simp only[e,cond_false];exact⟨(fun h=>by cases h),.inl ⟨_,rfl,D,R,rfl,hD,hR,hF,by omega,hlen⟩⟩
   have wm:i64.wrap ((D.length:Int)+(n:Int))=((D.length+n:Nat):Int):=by rw[bt (by omega) (by omega)];omega
   unfold bJ bh;simp only[e,cond_true,w2,w2',p2,wm];by_cases hm:n<R.length
   ·have em:decide (((D.length+n:Nat):Int) < (l.length:Int))=true:=by rw[decide_eq_true_eq];omega
    obtain⟨B1,R1,rfl,b1,b2,b3⟩:=p4.split (by omega);rw[List.length_append]at hm p6 p7;have b4:=b3.srt (by omega);obtain⟨i1,M,i2,i3,i4,i5⟩:=Kb D B1 R1 [] (by rw[←List.length_pos_iff];omega) (by rw[←List.length_pos_iff];omega) (by simp only[List.length_append,List.length_nil];omega) b2 b4;have e0:D++B1++R1++[]=D++(B1++R1):=by simp
    have e1:((D.length+B1.length+R1.length:Nat):Int)=(l.length:Int):=by omega
    have e2:((D.length+B1.length:Nat):Int)=((D.length+n:Nat):Int):=by omega
    rw[e0,e1,e2]at i1 i2;rw[List.append_nil]at i2;refine⟨fun _=>⟨p1,(fun z h=>by cases h),fun x hx=>by cases hx;simp only[wm];exact fun _=>i1⟩,.inr ⟨(D++M,((2*n:Nat):Int)),by simp only[em,cond_true];rw[i2],by simp only;omega,D++M,2*n,rfl,by omega,by omega,p3.app (.last (by omega) i4),p5.trans ((SameF.refl D).app i3)⟩⟩
   ·have em:decide (((D.length+n:Nat):Int) < (l.length:Int))=false:=by rw[decide_eq_false_iff_not];omega
    refine⟨fun _=>⟨p1,(fun z h=>by cases h),fun x hx=>by cases hx;simp only[wm,em];exact fun h=>by cases h⟩,.inr ⟨(D++R,((2*n:Nat):Int)),by simp only[em,cond_false],by simp only;omega,D++R,2*n,rfl,by omega,by omega,p3.app (.last (by omega) (p4.srt (by omega))),p5⟩⟩
  ·have e:decide ((n:Int) < (l.length:Int))=false:=by rw[decide_eq_false_iff_not];omega
   unfold bJ bh;simp only[e,cond_false];exact⟨(fun h=>by cases h),.inl ⟨_,rfl,hF,hB.srt (by omega)⟩⟩
 unfold bA bN;rw[k2];simp only[i2,m2];exact⟨⟨k1,(fun z h=>by cases h),fun x hx=>by cases hx;simp only[i2];exact⟨i1,m1,fun z h=>by rw[m2]at h;cases h⟩⟩,ym m3 m4⟩
theorem Db (l:List Deed)(hl:l.length<2 ^ 58):a_ l∧bo l=stS l:=⟨fun _=>(z7 l hl).1,(z7 l hl).2⟩
theorem Kc:∀ (l:List Deed) (n:Int),pF .int .deed (px l) n=l.any fun y=>y.no==n:=fun l n=>by
 have:∀ (r:List Deed),pF .int .deed (px r.reverse) n=r.reverse.any fun y=>y.no==n:=fun r=>by
  induction r with
  |nil=>rfl
  |cons x r ih=>
   rw[List.reverse_cons,uR,HD,ih,List.any_append];simp only[List.any_cons,List.any_nil,Bool.or_false];rw[Bool.or_comm];congr 1
   by_cases h:n=x.no
   ·subst h;simp
   ·have:¬x.no=n:=fun e=>h e.symm;simp[h,this]
 simpa using this l.reverse
theorem yn {l:List Deed}(h:Asc l){y:Deed}(hy:y∈l):bF .int .deed (px l) y.no=y:=by
 have:∀ (r:List Deed),Asc r.reverse→∀ y∈r,bF .int .deed (px r.reverse) y.no=y:=fun r=>by
  induction r with
  |nil=>simp
  |cons x r ih=>
   intro hA y hy;rw[List.reverse_cons]at hA ⊢;obtain⟨a1,_,a3⟩:=List.pairwise_append.1 hA;rw[uR,jB];rcases List.mem_cons.1 hy with rfl|hy
   ·rw[if_pos rfl]
   ·have:=a3 y (by simpa using hy) x (by simp);rw[if_neg (show ¬y.no=x.no by omega)];exact ih a1 y hy
 simpa using this l.reverse (by simpa using h) y (by simpa using hy)
structure Fit (d:District)(x:Deed):Prop where
 no0:0≤x.no
 no1:x.no≤1048576
 at0:0≤x.at_
 at1:x.at_≤4096
 kn0:0≤x.known
 kn1:x.known≤1048576
 kind:x.kind=1∨x.kind=2∨x.kind=3∨x.kind=4
 held:x.kind≠4→0≤x.right∧x.right< (d.rights.length:Int)∧(d.rights.getD (Int.toNat x.right) default).kind=1∧0≤x.since∧x.since< (d.farms.length:Int)
 pass:x.kind=1→0≤x.to∧x.to< (d.farms.length:Int)∧x.to≠x.since
 split:x.kind=2→PartsOk d x.parts
theorem Ke {d:District}{m:List (Int×Deed)}{x:Deed}(hf:d.farms.length≤600)(hr:d.rights.length≤256)(h:b6 d m x=true):Fit d x∧(x.kind=4→pF .int .deed m x.of_=true∧(bF .int .deed m x.of_).kind≠4∧(bF .int .deed m x.of_).known≤x.known):=by
 unfold b6 at h;cases h0:((((!(aH x.no 0 1048576)) ||(!(aH x.at_ 0 4096))) ||(!(aH x.known 0 1048576))) ||(!(i0 x)))with
 |true=>rw[h0]at h;cases h
 |false=>
  rw[h0]at h;simp only[Bool.or_eq_false_iff,Bool.not_eq_false']at h0;obtain⟨⟨⟨a1,a2⟩,a3⟩,a4⟩:=h0;rw[uQ]at a1 a2 a3;simp only[cond_false]at h;by_cases k1:x.kind=1
  ·rw[show(x.kind==1)=true by simp[k1]]at h;simp only[cond_true,Bool.and_eq_true,beq_iff_eq,bne_iff_ne]at h;obtain⟨⟨⟨⟨b1,b2⟩,b3⟩,b4⟩,b5⟩:=h;rw[Bc _ (by omega)]at b1 b3 b4;exact⟨⟨a1.1,a1.2,a2.1,a2.2,a3.1,a3.2,.inl k1,fun _=>⟨b1.1,b1.2,b2,b3.1,b3.2⟩,fun _=>⟨b4.1,b4.2,b5⟩,fun e=>by omega⟩,fun e=>by omega⟩
  ·rw[show(x.kind==1)=false by simpa using k1]at h;by_cases k2:x.kind=2
   ·rw[show(x.kind==2)=true by simp[k2]]at h;simp only[cond_true,cond_false,Bool.and_eq_true,beq_iff_eq]at h;obtain⟨⟨⟨b1,b2⟩,b3⟩,b4⟩:=h;rw[Bc _ (by omega)]at b1 b3;exact⟨⟨a1.1,a1.2,a2.1,a2.2,a3.1,a3.2,.inr (.inl k2),fun _=>⟨b1.1,b1.2,b2,b3.1,b3.2⟩,fun e=>by omega,fun _=>JX hf b4⟩,fun e=>by omega⟩
   ·rw[show(x.kind==2)=false by simpa using k2]at h;by_cases k3:x.kind=3
    ·rw[show(x.kind==3)=true by simp[k3]]at h;simp only[cond_true,cond_false,Bool.and_eq_true,beq_iff_eq]at h;obtain⟨⟨b1,b2⟩,b3⟩:=h;rw[Bc _ (by omega)]at b1 b3;exact⟨⟨a1.1,a1.2,a2.1,a2.2,a3.1,a3.2,.inr (.inr (.inl k3)),fun _=>⟨b1.1,b1.2,b2,b3.1,b3.2⟩,fun e=>by omega,fun e=>by omega⟩,fun e=>by omega⟩
    ·rw[show(x.kind==3)=false by simpa using k3]at h;by_cases k4:x.kind=4
     ·rw[show(x.kind==4)=true by simp[k4]]at h;simp only[cond_true,cond_false,Bool.and_eq_true,bne_iff_ne,decide_eq_true_eq]at h;obtain⟨⟨b1,b2⟩,b3⟩:=h;exact⟨⟨a1.1,a1.2,a2.1,a2.2,a3.1,a3.2,.inr (.inr (.inr k4)),fun e=>absurd k4 e,fun e=>by omega,fun e=>by omega⟩,fun _=>⟨b1,b2,b3⟩⟩
     ·rw[show(x.kind==4)=false by simpa using k4]at h;simp only[cond_false]at h;cases h
structure Deeds (d:District)(l:List Deed):Prop where
 right:Right1 d
 len:l.length≤512
 asc:Asc l
 fit:∀ x∈l,Fit d x
 void:∀ x∈l,x.kind=4→∃ y∈l,y.no=x.of_∧y.kind≠4∧y.known≤x.known∧y.no<x.no
theorem Gk {d:District}:∀ {r b:List Deed},Chk d b r→∀ x∈r,∃ b',(∃ t,b++r=b'++x::t)∧b6 d (px b') x=true
 | [],_,_,x,hx=>by cases hx
 |y::r,b,⟨h1,h2,h3⟩,x,hx=>by
  rcases List.mem_cons.1 hx with rfl|hx
  ·exact⟨b,⟨r,rfl⟩,h2⟩
  ·obtain⟨b',⟨t,e⟩,h⟩:=Gk h3 x hx;exact⟨b',⟨t,by rw[←e];simp⟩,h⟩
theorem ow {d:District}{l:List Deed}(h:ar d l=0):Deeds d l:=by
 obtain⟨h1,h2,_,h4⟩:=(gN d l).1 h;have hr:=lp (d:=d) (by rw[h1];rfl);have hA:=Chk.asc List.Pairwise.nil h4;rw[List.nil_append]at hA;have hf:∀ x∈l,∃ b',(∃ t,l=b'++x::t)∧b6 d (px b') x=true:=fun x hx=>by
  have:=Gk h4 x hx;simpa using this
 refine⟨hr,h2,hA,fun x hx=>?_,fun x hx hk=>?_⟩
 ·obtain⟨b,_,h⟩:=hf x hx;exact(Ke hr.farms hr.rights h).1
 ·obtain⟨b,⟨t,e⟩,h⟩:=hf x hx;obtain⟨q1,q2,q3⟩:=(Ke hr.farms hr.rights h).2 hk;rw[Kc,List.any_eq_true]at q1;obtain⟨y,hy,hn⟩:=q1;have hn:y.no=x.of_:=by simpa using hn
  rw[e]at hA;have hAb:Asc b:=(List.pairwise_append.1 hA).1;rw[←hn,yn hAb hy]at q2 q3;exact⟨y,by rw[e];exact List.mem_append_left _ hy,hn,q2,q3,(List.pairwise_append.1 hA).2.2 y hy x List.mem_cons_self⟩
def sK (l:List Deed)(known n:Int):Bool:=l.any fun v=>v.kind==4&&decide (v.known≤known)&&v.of_==n
def Bt (l:List Deed)(hour known:Int):List Deed:=l.filter fun x=>!((((x.kind==4) ||(decide (x.known > known))) ||(decide (x.at_ > hour))) ||sK l known x.no)
theorem Kf (l:List Deed)(known:Int):∃ m,aq (dR l known) l.length 0 []=.inr m∧∀ n,bF .int .bool m n=sK l known n:=by
 obtain⟨r,h1,h2⟩:=nz (step:=dR l known) (fun k m=>∀ n,bF .int .bool m n=sK (l.take k) known n) l.length 0 ([]:List (Int×Bool)) (fun n=>by simp[bF,e_,cF,sK]) (fun j s _ hj hs=>by
  rw[Nat.zero_add]at hj;unfold dR;rw[cy l default hj];cases hc:(((l.getD j (default:Deed)).kind==4)&&(decide ((l.getD j (default:Deed)).known≤known)))with
  |true=>
   refine⟨_,rfl,fun n=>?_⟩;rw[jB];unfold sK at hs ⊢;rw[List.any_append];simp only[List.any_cons,List.any_nil,Bool.or_false,hc,Bool.true_and];by_cases hn:n=(l.getD j (default:Deed)).of_
   ·subst hn;simp
   ·rw[if_neg hn,hs];have:((l.getD j (default:Deed)).of_==n)=false:=by simp only[beq_eq_false_iff_ne];exact fun e=>hn e.symm
    rw[this,Bool.or_false]
  |false=>
   refine⟨_,rfl,fun n=>?_⟩;rw[hs];unfold sK;rw[List.any_append];simp only[List.any_cons,List.any_nil,Bool.or_false,hc,Bool.false_and])
 refine⟨r,h1,fun n=>?_⟩;rw[h2,Nat.zero_add,List.take_length]
theorem Kg (K G:List Deed):((wK .deed (K++G) (K.length:Int) ((K++G).length:Int)).take K.length)=K:=by
 unfold wK;simp only[Int.toNat_natCast];split
 ·rename_i h;rw[List.length_append]at h;have:G=[]:=List.eq_nil_of_length_eq_zero (by omega);subst this;simp
 ·simp
theorem Dc {α:Type}{step:Nat→Unit→Int⊕Unit}(l:List α)(d:α)(P:α→Bool)(h:∀ k,k<l.length→step k ()=bif P (l.getD k d)then .inl (k:Int)else .inr ()):(aq step l.length 0 ()=.inr ()∧∀ x∈l,P x=false)∨∃ K x R,l=K++x::R∧aq step l.length 0 ()=.inl (K.length:Int)∧P x=true∧∀ y∈K,P y=false:=by
 have key:∀ (R K:List α),l=K++R→(∀ y∈K,P y=false)→(aq step R.length K.length ()=.inr ()∧∀ x∈l,P x=false)∨∃ K' x R',l=K'++x::R'∧aq step R.length K.length ()=.inl (K'.length:Int)∧P x=true∧∀ y∈K',P y=false:=fun R=>by
  induction R with
  |nil=>exact fun K h hK=>.inl ⟨rfl,fun x hx=>hK x (by rw[h]at hx;simpa using hx)⟩
  |cons x R ih=>
   intro K hl hK;have e:=h K.length (by rw[hl];simp);have g:l.getD K.length d=x:=by rw[hl];simp[List.getD_eq_getElem?_getD]
   rw[g]at e;simp only[List.length_cons,aq,e];cases hx:P x with
   |true=>exact .inr ⟨K,x,R,hl,rfl,hx,hK⟩
   |false=>
    simp only[cond_false];have:=ih (K++[x]) (by rw[hl];simp) (fun y hy=>by
     rcases List.mem_append.1 hy with hy|hy
     ·exact hK y hy
     ·simp at hy;subst hy;exact hx)
    rw[List.length_append]at this;exact this
 exact key l [] rfl (by simp)
theorem HL (l:List Deed)(known hour:Int)(v:List (Int×Bool))(hl:l.length<2 ^ 47):aY l known hour v∧aU l known hour v=l.filter fun x=>!aR x known hour v:=by
 have hI:(aj l known hour v= -1∧∀ x∈l,aR x known hour v=false)∨∃ K x R,l=K++x::R∧aj l known hour v=(K.length:Int)∧aR x known hour v=true∧∀ y∈K,aR y known hour v=false:=by
  unfold aj;rcases Dc (step:=df l known hour v) l default (fun x=>aR x known hour v) (fun k _=>rfl)with⟨e,h⟩ | ⟨K,x,R,h1,e,h2,h3⟩
  ·rw[e];exact .inl ⟨rfl,h⟩
  ·rw[e];exact .inr ⟨K,x,R,h1,rfl,h2,h3⟩
 unfold aY aU;rcases hI with⟨e,h⟩ | ⟨K,x,R,hl0,e,h2,h3⟩
 ·rw[e];refine⟨(fun h=>by cases h),?_⟩;simp only[BEq.rfl,cond_true];exact(List.filter_eq_self.2 fun x hx=>by rw[h x hx];rfl).symm
 ·have b:((K.length:Int) == -1)=false:=by simp only[beq_eq_false_iff_ne];omega
  have hlen:l.length=K.length+(R.length+1):=by rw[hl0];simp
  have w:i64.wrap ((K.length:Int)+1)=((K.length+1:Nat):Int):=by rw[bt (by omega) (by omega)];omega
  rw[e,w];simp only[b,cond_false];obtain⟨k1,r,k2,K',G',rfl,k3⟩:okI (aK l known hour v) (bG l known hour v) (l.length+1) 0 (l,(K.length:Int),((K.length+1:Nat):Int))∧∃ r,aq (aK l known hour v) (l.length+1) 0 (l,(K.length:Int),((K.length+1:Nat):Int))=.inl r∧∃ K' G',r=((K'.length:Int),K'++G')∧K'=l.filter fun x=>!aR x known hour v:=by
   refine wb (fun s:List Deed×Int×Int=>((l.length:Int) - s.2.2).toNat) (fun s:List Deed×Int×Int=>∃ K' g G' R',s=(K'++g::(G'++R'),(K'.length:Int),((K'.length+(G'.length+1):Nat):Int))∧K'.length+(G'.length+1)+R'.length=l.length∧(l.filter fun x=>!aR x known hour v)=K'++R'.filter fun x=>!aR x known hour v) _ ?_ _ _ _ ⟨K,x,[],R,by rw[hl0];simp,by rw[hlen];simp;omega,?_⟩ (by simp only;omega)
   ·rintro k s ⟨K',g,G',R',rfl,hn,hF⟩;have hL:(K'++g::(G'++R')).length=l.length:=by rw[←hn];simp;omega
    unfold bG aK;simp only[hL];cases R' with
    |nil=>
     have e1:decide (((K'.length+(G'.length+1):Nat):Int) < (l.length:Int))=false:=by rw[decide_eq_false_iff_not];simp only[List.length_nil]at hn;omega
     simp only[e1,cond_false];exact⟨(fun _ h=>by cases h),.inl ⟨_,rfl,K',g::(G'++[]),rfl,by simpa using hF.symm⟩⟩
    |cons y R'=>
     simp only[List.length_cons]at hn;have e1:decide (((K'.length+(G'.length+1):Nat):Int) < (l.length:Int))=true:=by rw[decide_eq_true_eq];omega
     have gy:(K'++g::(G'++y::R')).getD (K'.length+(G'.length+1)) default=y:=by
      have:K'++g::(G'++y::R')=(K'++g::G')++y::R':=by simp
      rw[this];exact jm _ _ _ _ (by simp)
     have w1:i64.wrap (((K'.length+(G'.length+1):Nat):Int)+1)=((K'.length+(G'.length+1)+1:Nat):Int):=by rw[bt (by omega) (by omega)];omega
     have w2:i64.wrap ((K'.length:Int)+1)=((K'.length+1:Nat):Int):=by rw[bt (by omega) (by omega)];omega
     simp only[e1,cond_true,Int.toNat_natCast,gy,w1,w2];refine⟨fun _ _=>⟨by omega,fun _=>by omega⟩,.inr ?_⟩;cases hy:aR y known hour v with
     |false=>
      obtain⟨g',G2,hG⟩:∃ g' G2,G'++[y]=g'::G2:=by
       cases G' with
       |nil=>exact⟨y,[],rfl⟩
       |cons a b=>exact⟨a,b++[y],rfl⟩
      have hGl:G'.length+1=G2.length+1:=by have:=congrArg List.length hG;simpa using this
      refine⟨_,rfl,by simp only;omega,K'++[y],g',G2,R',?_,?_,?_⟩
      ·rw[o5 K' g y _ rfl];have h1:g'::(G2++R')=G'++y::R':=by rw[←List.cons_append,←hG];simp
       rw[List.append_assoc,h1,Prod.mk.injEq,Prod.mk.injEq];refine⟨by simp,by simp,?_⟩;rw[List.length_append];simp only[List.length_cons,List.length_nil];omega
      ·rw[List.length_append];simp only[List.length_cons,List.length_nil];omega
      ·rw[hF,List.filter_cons_of_pos (by rw[hy];rfl)];simp
     |true=>
      refine⟨_,rfl,by simp only;omega,K',g,G'++[y],R',?_,by rw[List.length_append];simp only[List.length_cons,List.length_nil];omega,?_⟩
      ·have:(G'++[y])++R'=G'++y::R':=by simp
       rw[this,List.length_append,Prod.mk.injEq,Prod.mk.injEq];exact⟨rfl,rfl,by simp only[List.length_cons,List.length_nil];omega⟩
      ·rw[hF,List.filter_cons_of_neg (by rw[hy];simp)]
   ·rw[hl0,List.filter_append,List.filter_cons_of_neg (by rw[h2];simp)];congr 1
    exact List.filter_eq_self.2 fun y hy=>by rw[h3 y hy];rfl
  refine⟨fun _=>⟨k1,vI (Q:=fun _=>True) ⟨_,k2,trivial⟩,fun z hz=>?_⟩,?_⟩
  ·rw[k2]at hz;cases hz;have:(wK .deed (K'++G') (K'.length:Int) ((K'++G').length:Int)).length=(K'++G').length:=by
    unfold wK;simp only[Int.toNat_natCast];split
    ·rfl
    ·simp <;>omega
   simp only[this];simp only[List.length_append];omega
  ·rw[k2];simp only[Int.toNat_natCast,List.drop_zero];rw[Kg,k3]
theorem Dd (l:List Deed)(hour known:Int)(hl:l.length≤512):eZ l hour known∧cL l hour known=stS (Bt l hour known):=by
 obtain⟨m,e,hm⟩:=Kf l known;have hp:∀ x,aR x known hour m=((((x.kind==4) ||(decide (x.known > known))) ||(decide (x.at_ > hour))) ||sK l known x.no):=fun x=>by
  unfold aR;rw[hm]
 obtain⟨d1,d2⟩:=HL l known hour m (by omega);have d3:(l.filter fun x=>!aR x known hour m)=Bt l hour known:=by unfold Bt;simp only[hp]
 rw[d3]at d2;have hlen:(Bt l hour known).length≤l.length:=List.length_filter_le _ _;obtain⟨s1,s2⟩:=Db (Bt l hour known) (by omega);unfold eZ cL;rw[e];refine⟨fun _ z hz=>?_,?_⟩
 ·cases hz;rw[d2];exact⟨by unfold eu;omega,d1,s1⟩
 ·simp only[d2,s2]
theorem re (l:List Deed):aA l=l:=by
 obtain⟨r,h1,h2⟩:=nz (step:=bw l) (fun k s=>s=l.take k) l.length 0 ([]:List Deed) (by simp) (fun j s _ hj hs=>⟨_,rfl,by rw[cy l default (by omega),hs]⟩);unfold aA;rw[h1];simp only[h2,Nat.zero_add,List.take_length]
theorem Kh (l:List Deed):b7 l ((aA l).map vA):=fun _=>by
 rw[re];refine⟨wn (fun k s=>s=l.take k) _ _ _ (by simp) (fun j s _ hj hs=>⟨?_,fun s' h=>?_⟩),fun s h=>?_⟩
 ·rw[Nat.zero_add]at hj;unfold cw;rw[hs,List.length_take,Nat.min_eq_left (by omega),List.getElem?_map,List.getElem?_eq_getElem hj,eC l _ hj];rfl
 ·rw[Nat.zero_add]at hj;unfold bw at h;cases h;rw[cy l default hj,hs]
 ·have:=re l;unfold aA at this;rw[h]at this;simp only at this;rw[this,List.length_map]
theorem Gl {n d:Int}(hd:1≤d)(hd2:d≤1073741824)(h1: -1152921504606846976≤n)(h2:n≤1152921504606846976):kB n d=n / d:=by
 unfold kB;have e1:Int.tmod (Int.tmod n d+d) d=n % d:=by
  have a1: -d<Int.tmod n d:=Int.lt_tmod_of_pos n (by omega);rw[Int.tmod_eq_emod_of_nonneg (by omega),Int.add_emod_right];rw[Int.tmod_eq_emod];split
  ·show(n % d - 0) % d=n % d;rw[Int.sub_zero,Int.emod_emod]
  ·have:n % d - (d.natAbs:Int)=n % d+d*(-1):=by omega
   rw[this,Int.add_mul_emod_self_left,Int.emod_emod]
 have a1: -d<Int.tmod n d:=Int.lt_tmod_of_pos n (by omega);have a2:Int.tmod n d<d:=Int.tmod_lt_of_pos n (by omega);rw[bt (by omega: -9223372036854775808≤Int.tmod n d+d) (by omega),e1];have b1:=Int.emod_nonneg n (by omega:d≠0);have b2:=Int.emod_lt_of_pos n (by omega:0<d);rw[bt (by omega: -9223372036854775808≤n - n % d) (by omega)];have e2:n - n % d=d*(n / d):=by have:=Int.mul_ediv_add_emod n d;omega
 rw[e2,Int.mul_tdiv_cancel_left _ (by omega)];have c1:n / d≤1152921504606846976:=by
  have:=Int.ediv_le_ediv (by omega:0<d) h2;have:=Int.ediv_le_self (b:=d) (by omega:(0:Int)≤1152921504606846976);omega
 have c2: -1152921504606846976≤n / d:=by
  rw[Int.le_ediv_iff_mul_le (by omega)];have:=Int.mul_le_mul_of_nonneg_left (by omega:1≤d) (by omega:(0:Int)≤1152921504606846976);omega
 exact bt (by omega) (by omega)
def eL {κ υ:Type}(l:List (κ×υ)):List κ:=l.map fun p=>p.1
theorem uW {κ υ:Type}[DecidableEq κ]:∀ {l:List (κ×υ)} {x:κ},x ∉ eL l→e_ l x=none
 | [],_,_=>rfl
 |(a,b)::r,x,h=>by
  unfold e_;rw[if_neg (fun e=>h (by simp[eL,e]))];exact uW fun hm=>h (by simp only[eL,List.map_cons,List.mem_cons]at hm ⊢;exact .inr hm)
theorem t8 {κ υ:Type}[DecidableEq κ]:∀ {l:List (κ×υ)},(eL l).Nodup→∀ {x:κ} {y:υ},e_ l x=some y↔(x,y)∈l
 | [],_,x,y=>by simp[e_]
 |(a,b)::r,h,x,y=>by
  have h':=List.nodup_cons.1 h;unfold e_;by_cases e:x=a
  ·subst e;rw[if_pos rfl];simp only[Option.some.injEq,List.mem_cons,Prod.mk.injEq,true_and];refine⟨fun h=>.inl h.symm,fun h=>?_⟩;rcases h with h|h
   ·exact h.symm
   ·exact absurd (List.mem_map_of_mem (f:=fun p:κ×υ=>p.1) h) h'.1
  ·rw[if_neg e,t8 h'.2];simp only[List.mem_cons,Prod.mk.injEq,e,false_and,false_or]
theorem kF {κ υ:Type}[DecidableEq κ](x:κ)(y:υ):∀ (l:List (κ×υ)),(eL l).Nodup→(eL (ri l x y)).Nodup∧∀ z,z∈eL (ri l x y)→z=x∨z∈eL l
 | [],_=>by simp[ri,eL]
 |(a,b)::r,h=>by
  have h':=List.nodup_cons.1 h;unfold ri;by_cases e:x=a
  ·subst e;rw[if_pos rfl];exact⟨h,fun z hz=>.inr hz⟩
  ·rw[if_neg e];obtain⟨g1,g2⟩:=kF x y r h'.2;refine⟨List.nodup_cons.2 ⟨fun hm=>?_,g1⟩,fun z hz=>?_⟩
   ·rcases g2 _ hm with h3|h3
    ·exact e h3.symm
    ·exact h'.1 h3
   ·rcases List.mem_cons.1 hz with rfl|hz
    ·exact .inr List.mem_cons_self
    ·rcases g2 z hz with h3|h3
     ·exact .inl h3
     ·exact .inr (List.mem_cons_of_mem _ h3)
theorem uX {κ υ:Type}[DecidableEq κ](x:κ):∀ (l:List (κ×υ)),(eL l).Nodup→(eL (uj l x)).Nodup∧(∀ z,z∈eL (uj l x)→z∈eL l)∧∀ z,e_ (uj l x) z=if z=x then none else e_ l z
 | [],_=>by simp[uj,eL,e_]
 |(a,b)::r,h=>by
  have h':=List.nodup_cons.1 h;unfold uj;by_cases e:x=a
  ·subst e;rw[if_pos rfl];refine⟨h'.2,fun z hz=>List.mem_cons_of_mem _ hz,fun z=>?_⟩;by_cases hz:z=x
   ·subst hz;rw[if_pos rfl];exact uW h'.1
   ·rw[if_neg hz];simp only[e_,if_neg hz]
  ·rw[if_neg e];obtain⟨g1,g2,g3⟩:=uX x r h'.2;refine⟨List.nodup_cons.2 ⟨fun hm=>h'.1 (g2 _ hm),g1⟩,fun z hz=>?_,fun z=>?_⟩
   ·rcases List.mem_cons.1 hz with rfl|hz
    ·exact List.mem_cons_self
    ·exact List.mem_cons_of_mem _ (g2 z hz)
   ·simp only[e_,g3];by_cases hz:z=a
    ·subst hz;rw[if_pos rfl,if_neg (fun e2=>e e2.symm),if_pos rfl]
    ·simp only[if_neg hz]
def tot:Nat→(Int→Int)→Int
 |0,_=>0
 |n+1,g=>tot n g+g (n:Int)
def gK (g:Int→Int)(f v:Int):Int→Int:=fun x=>if x=f then v else g x
theorem De {g h:Int→Int}:∀ {n:Nat},(∀ f:Int,0≤f→f< (n:Int)→g f=h f)→tot n g=tot n h
 |0,_=>rfl
 |n+1,e=>by unfold tot;rw[De (n:=n) fun f h1 h2=>e f h1 (by omega),e n (by omega) (by omega)]
theorem o6 (g:Int→Int)(f v:Int):∀ (n:Nat),0≤f→f< (n:Int)→tot n (gK g f v)=tot n g - g f+v
 |0,h0,h1=>by omega
 |n+1,h0,h1=>by
  unfold tot;by_cases h:f=(n:Int)
  ·subst h;rw[De (g:=gK g n v) (h:=g) fun x _ hx=>by unfold gK;rw[if_neg (by omega)]];unfold gK;rw[if_pos rfl];omega
  ·rw[o6 g f v n h0 (by omega)];unfold gK;rw[if_neg (fun e=>h e.symm)];omega
theorem EV {g:Int→Int}(h:∀ f,0≤g f):∀ n,0≤tot n g
 |0=>Int.le_refl _
 |n+1=>by have:=EV h n;have:=h n;unfold tot;omega
theorem Bu {g:Int→Int}(h:∀ f,0≤g f):∀ (n:Nat) (f:Int),0≤f→f< (n:Int)→g f≤tot n g
 |0,f,h0,h1=>by omega
 |n+1,f,h0,h1=>by
  unfold tot;have h2:=EV h n;by_cases e:f=(n:Int)
  ·subst e;omega
  ·have:=Bu h n f h0 (by omega);have:=h n;omega
structure Good (F:Nat)(L:Int)(g:Int→Int):Prop where
 nn:∀ f,0≤g f
 sup:∀ f,g f≠0→0≤f∧f< (F:Int)
 tot:tot F g≤L
theorem Good.le {F:Nat}{L:Int}{g:Int→Int}(h:Good F L g)(hL:0≤L)(f:Int):g f≤L:=by
 by_cases e:g f=0
 ·omega
 ·obtain⟨a,b⟩:=h.sup f e;exact Int.le_trans (Bu h.nn F f a b) h.tot
theorem Good.put {F:Nat}{L M:Int}{g:Int→Int}(h:Good F L g){f v:Int}(h0:0≤f)(h1:f< (F:Int))(hv:0≤v)(hM:Go.Sx.tot F g - g f+v≤M):Good F M (gK g f v) where
 nn:=fun x=>by unfold gK;split;exact hv;exact h.nn x
 sup:=fun x hx=>by
  unfold gK at hx;split at hx
  ·rename_i e;rw[e];exact⟨h0,h1⟩
  ·exact h.sup x hx
 tot:=by rw[o6 g f v F h0 h1];exact hM
def loP (p:Part)(n:Int):Int:=p.share.n*n / p.share.d
theorem Ki {a:Ratio}(h:RatioOk a){n:Int}(h0:0≤n)(h1:n≤1073741824):(eI a n).1=a.n*n / a.d∧(eI a n).2.1= -(-(a.n*n) / a.d)∧(eI a n).2.2=0:=by
 have hb: -1152921504606846976≤a.n*n∧a.n*n≤1152921504606846976:=by
  have:(a.n*n).natAbs≤1073741824*1073741824:=by rw[Int.natAbs_mul];exact Nat.mul_le_mul (by have:=h.n0;have:=h.n;omega) (by omega)
  omega
 have hd:=h.d1;have hd2:=h.d;have hn0:=h.n0;have hn1:=h.n;unfold eI;rw[(fj a).2 h];have e:(decide (n< -1073741824) ||decide (n > 1073741824))=false:=by simp;omega
 simp only[bne_self_eq_false,cond_false,e];have ee: -a.n*n= -(a.n*n):=Int.neg_mul _ _;rw[bt (n:=a.n*n) (by omega) (by omega),bt (n:=0 - a.n) (by omega) (by omega),show 0 - a.n= -a.n by omega,ee,bt (n:= -(a.n*n)) (by omega) (by omega),Gl hd hd2 (by omega) (by omega),Gl hd hd2 (by omega) (by omega)];refine⟨rfl,?_,trivial⟩;have c1: -(a.n*n) / a.d≤1152921504606846976:=by
  have:=Int.ediv_le_ediv (by omega:0<a.d) (by omega: -(a.n*n)≤1152921504606846976);have:=Int.ediv_le_self (b:=a.d) (by omega:(0:Int)≤1152921504606846976);omega
 have c2: -1152921504606846976≤ -(a.n*n) / a.d:=by
  rw[Int.le_ediv_iff_mul_le (by omega)];have:=Int.mul_le_mul_of_nonneg_left (by omega:1≤a.d) (by omega:(0:Int)≤1152921504606846976);omega
 rw[bt (by omega) (by omega)];omega
theorem Kj {p:Part}(h:RatioOk p.share)(hp:0<p.share.n){n:Int}(h0:0≤n):0≤loP p n:=by
 unfold loP;exact Int.ediv_nonneg (Int.mul_nonneg (by omega) h0) (by have:=h.d1;omega)
theorem Kk {x d:Rat}(hd:0<d)(h:0≤x*d):0≤x:=by
 rcases Classical.em (0≤x)with h1|h1
 ·exact h1
 ·have h2:0< -x:=by grind
  have h3:=Rat.mul_pos h2 hd;grind
theorem P1 {p:Part}(h:RatioOk p.share)(n:Int):((loP p n:Int):Rat)≤rv p.share*(n:Rat)∧rv p.share*(n:Rat)≤((loP p n:Int):Rat)+1:=by
 have hd:=h.d1;have d0:(0:Rat) < (p.share.d:Rat):=by exact_mod_cast (by omega:(0:Int) <p.share.d)
 have dn:(p.share.d:Rat)≠0:=lr (by omega);have e1:rv p.share*(p.share.d:Rat)=(p.share.n:Rat):=by unfold rv;exact Rat.div_mul_cancel dn
 have q:=Int.mul_ediv_add_emod (p.share.n*n) p.share.d;have q1:=Int.emod_nonneg (p.share.n*n) (by omega:p.share.d≠0);have q2:=Int.emod_lt_of_pos (p.share.n*n) (by omega:0<p.share.d);have r1:p.share.d*loP p n≤p.share.n*n:=by unfold loP;omega
 have r2:p.share.n*n≤p.share.d*loP p n+p.share.d:=by unfold loP;omega
 have r1':(p.share.d:Rat)*((loP p n:Int):Rat)≤(p.share.n:Rat)*(n:Rat):=by exact_mod_cast r1
 have r2':(p.share.n:Rat)*(n:Rat)≤(p.share.d:Rat)*((loP p n:Int):Rat)+(p.share.d:Rat):=by exact_mod_cast r2
 rw[←e1]at r1' r2';generalize ((loP p n:Int):Rat)=lo at *;generalize (n:Rat)=m at *;generalize rv p.share=v at *;generalize (p.share.d:Rat)=d at *;constructor
 ·have:=Kk (x:=v*m - lo) d0 (by grind);grind
 ·have:=Kk (x:=lo+1 - v*m) d0 (by grind);grind
def dp (l:List Part)(n:Int):Int:=(l.map fun p=>loP p n).sum
theorem P2 {l:List Part}(h:∀ p∈l,RatioOk p.share)(n:Int):((dp l n:Int):Rat)≤tW l*(n:Rat)∧tW l*(n:Rat)≤((dp l n+(l.length:Int):Int):Rat):=by
 induction l with
 |nil=>simp[dp,tW,Rat.zero_mul]
 |cons p r ih=>
  obtain⟨i1,i2⟩:=ih fun q hq=>h q (List.mem_cons_of_mem _ hq);obtain⟨j1,j2⟩:=P1 (h p List.mem_cons_self) n;have e:dp (p::r) n=loP p n+dp r n:=by simp[dp]
  have e1:((dp (p::r) n:Int):Rat)=((loP p n:Int):Rat)+((dp r n:Int):Rat):=by rw[e];exact_mod_cast rfl
  have e2:((dp (p::r) n+((p::r).length:Int):Int):Rat)=(((loP p n:Int):Rat)+1)+((dp r n+(r.length:Int):Int):Rat):=by
   have:dp (p::r) n+((p::r).length:Int)=(loP p n+1)+(dp r n+(r.length:Int)):=by rw[e];simp only[List.length_cons];omega
   rw[this];exact_mod_cast rfl
  rw[e1,e2];simp only[tW];generalize ((loP p n:Int):Rat)=a at *;generalize ((dp r n:Int):Rat)=b at *;generalize ((dp r n+(r.length:Int):Int):Rat)=c at *;generalize (n:Rat)=m at *;generalize rv p.share=v at *;generalize tW r=w at *;constructor <;>grind
theorem Gm {d:District}{l:List Part}(h:PartsOk d l)(n:Int):dp l n≤n∧n≤dp l n+(l.length:Int):=by
 obtain⟨h1,h2⟩:=P2 (fun p hp=>(h.part p hp).share) n;rw[h.sum,Rat.one_mul]at h1 h2;exact⟨by exact_mod_cast h1,by exact_mod_cast h2⟩


def t_ (l:List Part)(n:Int)(g:Int→Int):Int→Int:=l.foldl (fun g p=>gK g p.farm (g p.farm+loP p n)) g
def ox (l:List Part)(g:Int→Int):Int→Int:=l.foldl (fun g p=>gK g p.farm (g p.farm+1)) g
def yo (l:List Part)(n:Int)(g:Int→Int):Int→Int:=ox (l.take (n - dp l n).toNat) (t_ l n g)
def Bv (x:Deed)(g:Int→Int):Int→Int:=
 if g x.since=0 then g else
 if x.kind=1 then gK (gK g x.since 0) x.to (gK g x.since 0 x.to+g x.since)else
 if x.kind=2 then yo x.parts (g x.since) (gK g x.since 0)else gK g x.since 0
theorem HM (l:List Part)(p:Part)(n:Int)(g:Int→Int):t_ (l++[p]) n g=gK (t_ l n g) p.farm (t_ l n g p.farm+loP p n):=by
 unfold t_;rw[List.foldl_append];rfl
theorem EW (l:List Part)(p:Part)(g:Int→Int):ox (l++[p]) g=gK (ox l g) p.farm (ox l g p.farm+1):=by
 unfold ox;rw[List.foldl_append];rfl
theorem yp (l:List Part)(p:Part)(n:Int):dp (l++[p]) n=dp l n+loP p n:=by
 unfold dp;simp
def PFit (F:Nat)(l:List Part):Prop:= ∀ p∈l,0≤p.farm∧p.farm< (F:Int)∧RatioOk p.share∧0<p.share.n
theorem PartsOk.fit {d:District}{l:List Part}(h:PartsOk d l):PFit d.farms.length l:=fun p hp=>⟨(h.part p hp).f0,(h.part p hp).f1,(h.part p hp).share,(h.part p hp).pos⟩
theorem rf {F:Nat}{n:Int}(h0:0≤n):∀ (l:List Part) (g:Int→Int) (M:Int),PFit F l→Good F M g→Good F (M+dp l n) (t_ l n g)∧tot F (t_ l n g)=tot F g+dp l n
 | [],g,M,_,hg=>by simpa[t_,dp]using hg
 |p::l,g,M,hl,hg=>by
  obtain⟨a,b,c,e⟩:=hl p List.mem_cons_self;have hlo:=Kj c e h0;have hgf:=hg.nn p.farm;have h1:Good F (M+loP p n) (gK g p.farm (g p.farm+loP p n)):=hg.put a b (by omega) (by have:=hg.tot;omega);obtain⟨q1,q2⟩:=rf h0 l _ _ (fun q hq=>hl q (List.mem_cons_of_mem _ hq)) h1;have e1:dp (p::l) n=loP p n+dp l n:=by simp[dp]
  rw[o6 g p.farm _ F a b]at q2;rw[e1];refine⟨by rw[show M+(loP p n+dp l n)=M+loP p n+dp l n by omega];exact q1,?_⟩;show tot F (t_ l n (gK g p.farm (g p.farm+loP p n)))=_;rw[q2];omega
theorem sL {F:Nat}:∀ (l:List Part) (g:Int→Int) (M:Int),PFit F l→Good F M g→Good F (M+l.length) (ox l g)∧tot F (ox l g)=tot F g+l.length
 | [],g,M,_,hg=>by simpa[ox]using hg
 |p::l,g,M,hl,hg=>by
  obtain⟨a,b,c,e⟩:=hl p List.mem_cons_self;have hgf:=hg.nn p.farm;have h1:Good F (M+1) (gK g p.farm (g p.farm+1)):=hg.put a b (by omega) (by have:=hg.tot;omega);obtain⟨q1,q2⟩:=sL l _ _ (fun q hq=>hl q (List.mem_cons_of_mem _ hq)) h1;rw[o6 g p.farm _ F a b]at q2;simp only[List.length_cons];refine⟨by rw[show M+((l.length+1:Nat):Int)=M+1+(l.length:Int) by omega];exact q1,?_⟩;show tot F (ox l (gK g p.farm (g p.farm+1)))=_;rw[q2];omega
theorem PFit.take {F:Nat}{l:List Part}(h:PFit F l)(k:Nat):PFit F (l.take k):=fun p hp=>h p (List.mem_of_mem_take hp)
theorem EX {d:District}{l:List Part}(h:PartsOk d l){n M:Int}(h0:0≤n){g:Int→Int}(hg:Good d.farms.length M g):Good d.farms.length (M+n) (yo l n g)∧tot d.farms.length (yo l n g)=tot d.farms.length g+n:=by
 obtain⟨q1,q2⟩:=rf h0 l g M h.fit hg;obtain⟨r1,r2⟩:=sL (l.take (n - dp l n).toNat) _ _ (h.fit.take _) q1;obtain⟨l1,l2⟩:=Gm h n;have e:((l.take (n - dp l n).toNat).length:Int)=n - dp l n:=by rw[List.length_take];omega
 rw[e]at r1 r2;refine⟨by rw[show M+n=M+dp l n+(n - dp l n) by omega];exact r1,?_⟩;show tot _ (ox _ _)=_;rw[r2,q2];omega
theorem Df {d:District}{x:Deed}(hx:Fit d x)(hk:x.kind≠4){L:Int}{g:Int→Int}(hg:Good d.farms.length L g):Good d.farms.length L (Bv x g)∧(x.kind≠3→tot d.farms.length (Bv x g)=tot d.farms.length g):=by
 obtain⟨_,_,_,s0,s1⟩:=hx.held hk;unfold Bv;by_cases hn:g x.since=0
 ·rw[if_pos hn];exact⟨hg,fun _=>rfl⟩
 rw[if_neg hn];have hnn:=hg.nn x.since;have hT:=hg.tot;have g1:Good d.farms.length (L - g x.since) (gK g x.since 0):=hg.put s0 s1 (Int.le_refl _) (by omega);have t1:=o6 g x.since 0 d.farms.length s0 s1;by_cases k1:x.kind=1
 ·rw[if_pos k1];obtain⟨a,b,c⟩:=hx.pass k1;have h1:=g1.nn x.to;have t2:=o6 (gK g x.since 0) x.to (gK g x.since 0 x.to+g x.since) d.farms.length a b;exact⟨g1.put a b (by omega) (by omega),fun _=>by omega⟩
 rw[if_neg k1];by_cases k2:x.kind=2
 ·rw[if_pos k2];obtain⟨q1,q2⟩:=EX (hx.split k2) hnn g1;rw[show L - g x.since+g x.since=L by omega]at q1;exact⟨q1,fun _=>by omega⟩
 ·rw[if_neg k2];refine⟨⟨g1.nn,g1.sup,by have:=g1.tot;omega⟩,fun k3=>?_⟩;rcases hx.kind with e|e|e|e <;>omega
abbrev BM:=List (RegisterTitle×Int)
abbrev RT (r f:Int):RegisterTitle:= { right:=r,farm:=f}
def bk (m:BM):Int→Int→Int:=fun r f=>bF .registerTitle .int m (RT r f)
theorem Gn {a b c e:Int}:RT a b=RT c e↔a=c∧b=e:=by simp[RT]
theorem Bw (m:BM)(r f v:Int):bk (eU .registerTitle .int m (RT r f) v)=fun r'=>if r'=r then gK (bk m r) f v else bk m r':=by
 funext r' f'
 unfold bk;rw[jB];by_cases h:r'=r
 ·subst h;rw[if_pos rfl];unfold gK;by_cases h2:f'=f
  ·subst h2;simp
  ·rw[if_neg (fun e=>h2 (Gn.1 e).2),if_neg h2]
 ·rw[if_neg (fun e=>h (Gn.1 e).1),if_neg h]
theorem P3 (m:BM)(hN:(eL m).Nodup)(r f:Int):bk (kU .registerTitle .int m (RT r f))=fun r'=>if r'=r then gK (bk m r) f 0 else bk m r':=by
 funext r' f'
 unfold bk bF kU;have e:=(uX (RT r f) m hN).2.2 (RT r' f');have e':e_ (uj m (RT r f)) (RT r' f')=if RT r' f'=RT r f then none else e_ m (RT r' f'):=e;by_cases h:r'=r
 ·subst h;rw[if_pos rfl];unfold gK;by_cases h2:f'=f
  ·subst h2;rw[e',if_pos rfl,if_pos rfl];rfl
  ·rw[e',if_neg (fun e=>h2 (Gn.1 e).2),if_neg h2]
 ·rw[if_neg h,e',if_neg (fun e=>h (Gn.1 e).1)]
theorem Good.le30 {F:Nat}{L:Int}{g:Int→Int}(h:Good F L g)(hL:L≤2147483648)(f:Int):0≤g f∧g f≤2147483648:=by
 have h1:=h.nn f;by_cases e:g f=0
 ·omega
 ·obtain⟨a,b⟩:=h.sup f e;have:=Bu h.nn F f a b;have:=h.tot;omega
theorem HN {d:District}{x:Deed}(hx:PartsOk d x.parts){n:Int}(h0:0≤n)(h1:n≤1073741824){m:BM}(hN:(eL m).Nodup){M:Int}(hM:M+n≤2147483648)(hg:Good d.farms.length M (bk m x.right)):
  dJ x n m∧(eL (ci x n m)).Nodup∧bk (ci x n m)=fun r=>if r=x.right then yo x.parts n (bk m r)else bk m r:=by
 obtain⟨l1,l2⟩:=Gm hx n;obtain⟨⟨m1,lf⟩,e1,a1,a2,a3⟩:=nz (step:=bu x n) (fun k (s:BM×Int) =>(eL s.1).Nodup∧(bk s.1=fun r=>if r=x.right then t_ (x.parts.take k) n (bk m r)else bk m r)∧s.2=n - dp (x.parts.take k) n) x.parts.length 0 (m,n) ⟨hN,by funext r;by_cases h:r=x.right <;>simp[h,t_],by simp[dp]⟩ (fun j s _ hj ⟨j1,j2,j3⟩ =>by
  rw[Nat.zero_add]at hj;have hm:x.parts.getD j default∈x.parts:=by rw[eC _ _ hj];exact List.getElem_mem _
  obtain⟨f0,f1,f2,f3⟩:=hx.fit _ hm;have elo:(eI (x.parts.getD j default).share n).1=loP (x.parts.getD j default) n:=(Ki f2 h0 h1).1;have hlo:=Kj f2 f3 h0;obtain⟨q1,q2⟩:=rf h0 (x.parts.take j) _ _ (hx.fit.take _) hg;have hs:∀ k,0≤dp (x.parts.take k) n∧dp (x.parts.take k) n≤dp x.parts n:=fun k=>by
   have key:∀ l:List Part,PFit d.farms.length l→0≤dp l n:=fun l=>by
    induction l with
    |nil=>intro _;simp[dp]
    |cons p r ih=>
     intro hp;obtain⟨_,_,c,e⟩:=hp p List.mem_cons_self;have:=Kj c e h0;have:=ih fun q hq=>hp q (List.mem_cons_of_mem _ hq);have e:dp (p::r) n=loP p n+dp r n:=by simp[dp]
     omega
   have h1:=key _ (hx.fit.take k);have h2:=key (x.parts.drop k) fun p hp=>hx.fit p (List.mem_of_mem_drop hp);have h3:dp x.parts n=dp (x.parts.take k) n+dp (x.parts.drop k) n:=by
    conv=>lhs;rw[←List.take_append_drop k x.parts]
    unfold dp;rw[List.map_append,List.sum_append]
   omega
  have hsj:=hs j;have hsj1:=hs (j+1);rw[cy _ default hj,yp]at hsj1;have hv:=q1.le30 (by omega) (x.parts.getD j default).farm;have ebk:bF .registerTitle .int s.1 (RT x.right (x.parts.getD j default).farm)=t_ (x.parts.take j) n (bk m x.right) (x.parts.getD j default).farm:=by
   have:=congrFun (congrFun j2 x.right) (x.parts.getD j default).farm;simpa[bk]using this
  refine⟨_,rfl,?_,?_,?_⟩
  ·exact(kF _ _ _ j1).1
  ·simp only[elo];rw[ebk,bt (by omega) (by omega),Bw,j2];funext r
   by_cases h:r=x.right
   ·subst h;simp only[if_true];rw[cy _ default hj,HM]
   ·simp only[if_neg h]
  ·simp only[elo,j3];rw[bt (by omega) (by omega),cy _ default hj,yp];omega)
 rw[Nat.zero_add,List.take_length]at a2 a3;simp only at a1 a2 a3;have hlf:0≤lf∧lf≤(x.parts.length:Int):=by omega
 obtain⟨q1,q2⟩:=rf h0 x.parts _ _ hx.fit hg;have tk:(x.parts.take lf.toNat).drop 0=x.parts.take lf.toNat:=by simp
 have tkl:(x.parts.take lf.toNat).length=lf.toNat:=by rw[List.length_take];omega
 obtain⟨m2,e2,b1,b2⟩:=nz (step:=fb x (m1,lf)) (fun k (s:BM) =>(eL s).Nodup∧(bk s=fun r=>if r=x.right then ox ((x.parts.take lf.toNat).take k) (t_ x.parts n (bk m r))else bk m r)) lf.toNat 0 m1 ⟨a1,by rw[a2];funext r;by_cases h:r=x.right <;>simp[h,ox]⟩ (fun j s _ hj ⟨j1,j2⟩ =>by
  rw[Nat.zero_add]at hj;have hj':j< (x.parts.take lf.toNat).length:=by omega
  have hm:(x.parts.take lf.toNat).getD j default∈x.parts.take lf.toNat:=by rw[eC _ _ hj'];exact List.getElem_mem _
  obtain⟨r1,r2⟩:=sL ((x.parts.take lf.toNat).take j) _ _ ((hx.fit.take _).take _) q1;have hlen:((x.parts.take lf.toNat).take j).length=j:=by rw[List.length_take];omega
  have hv:=r1.le30 (by omega) ((x.parts.take lf.toNat).getD j default).farm;have ebk:bF .registerTitle .int s (RT x.right ((x.parts.take lf.toNat).getD j default).farm)=ox ((x.parts.take lf.toNat).take j) (t_ x.parts n (bk m x.right)) ((x.parts.take lf.toNat).getD j default).farm:=by
   have:=congrFun (congrFun j2 x.right) ((x.parts.take lf.toNat).getD j default).farm;simpa[bk]using this
  refine⟨_,rfl,?_,?_⟩
  ·exact(kF _ _ _ j1).1
  ·simp only[tk];rw[ebk,bt (by omega) (by omega),Bw,j2];funext r
   by_cases h:r=x.right
   ·subst h;simp only[if_true];rw[cy _ default hj',EW]
   ·simp only[if_neg h])
 rw[Nat.zero_add]at b2;have e2':aq (fb x (m1,lf)) ((x.parts.take lf.toNat).drop 0).length 0 m1=.inr m2:=by rw[tk,tkl];exact e2
 have eR:ci x n m=m2:=by
  unfold ci;rw[e1];simp only[e2']
 refine⟨fun _ z hz=>?_,?_,?_⟩
 ·rw[e1]at hz;cases hz;exact⟨by omega,hlf.1,hlf.2⟩
 ·rw[eR];exact b1
 ·rw[eR,b2];funext r
  by_cases h:r=x.right
  ·simp only[if_pos h];unfold yo;rw[←a3,List.take_take,Nat.min_self]
  ·simp only[if_neg h]
def iK (x:Deed)(B:Int→Int→Int):Int→Int→Int:=fun r=>if r=x.right then Bv x (B r)else B r
def pz (ds:List Deed)(B:Int→Int→Int):Int→Int→Int:=ds.foldl (fun B x=>iK x B) B
def MW:List Deed→(Int→Int→Int)→List Int
 | [],_=>[]
 |x::r,B=>(if B x.right x.since=0 then [x.no]else [])++MW r (iK x B)
structure MapOk (d:District)(m:BM):Prop where
 nodup:(eL m).Nodup
 good:∀ r,∃ L,L≤1073741824∧Good d.farms.length L (bk m r)
theorem MapOk.le {d:District}{m:BM}(h:MapOk d m)(r f:Int):0≤bk m r f∧bk m r f≤1073741824:=by
 obtain⟨L,h1,h2⟩:=h.good r;have:=h2.nn f;by_cases e:bk m r f=0
 ·omega
 ·obtain⟨a,b⟩:=h2.sup f e;have:=Bu h2.nn _ f a b;have:=h2.tot;omega
theorem MX {d:District}{ds:List Deed}{x:Deed}(hx:Fit d x)(hk:x.kind≠4){e:List Int}{m:BM}(hm:MapOk d m)(he:(e.length+1)*8≤eu):
  dm ds x (e,m)∧∃ m',bT ds x (e,m)=.inr (e++(if bk m x.right x.since=0 then [x.no]else []),m')∧MapOk d m'∧bk m'=iK x (bk m):=by
 obtain⟨r0,r1,r2,s0,s1⟩:=hx.held hk;have hv:=hm.le x.right x.since;have ebk:bF .registerTitle .int m (RT x.right x.since)=bk m x.right x.since:=rfl;have hdel:=uX (RT x.right x.since) m hm.nodup;have hstep:∀ m':BM,(eL m').Nodup→bk m'=iK x (bk m)→MapOk d m':=fun m' hN hb=>by
  refine⟨hN,fun r=>?_⟩;obtain⟨L,h1,h2⟩:=hm.good r;refine⟨L,h1,?_⟩;rw[hb];show Good _ _ (if r=x.right then Bv x (bk m r)else bk m r);split
  ·exact(Df hx hk h2).1
  ·exact h2
 have hlen:(e++[x.no]).length=e.length+1:=by simp
 unfold dm bT;simp only[ebk,hlen];by_cases hn:bk m x.right x.since=0
 ·have b0:(bk m x.right x.since==0)=true:=by simp[hn]
  rw[b0,if_pos hn];refine⟨⟨fun _=>he,(fun h=>by cases h)⟩,m,rfl,hm,?_⟩;funext r
  unfold iK;split
  ·rename_i h;subst h;unfold Bv;rw[if_pos hn]
  ·rfl
 ·have b0:(bk m x.right x.since==0)=false:=by simpa using hn
  rw[b0,if_neg hn,List.append_nil];simp only[cond_false];have edel:=P3 m hm.nodup x.right x.since;have kdel:(eL (kU .registerTitle .int m (RT x.right x.since))).Nodup:=hdel.1;have egood:Good d.farms.length (1073741824 - bk m x.right x.since) (bk (kU .registerTitle .int m (RT x.right x.since)) x.right):=by
   obtain⟨L,h1,h2⟩:=hm.good x.right;rw[edel];simp only[if_true];exact h2.put s0 s1 (Int.le_refl _) (by have:=h2.tot;omega)
  by_cases k1:x.kind=1
  ·have b1:(x.kind==1)=true:=by simp[k1]
   rw[b1];simp only[cond_true];obtain⟨a,b,c⟩:=hx.pass k1;have hto:=egood.le30 (by omega) x.to;have e2:bF .registerTitle .int (kU .registerTitle .int m (RT x.right x.since)) (RT x.right x.to)=gK (bk m x.right) x.since 0 x.to:=by
    have:=congrFun (congrFun edel x.right) x.to;simpa[bk]using this
   have hto':0≤gK (bk m x.right) x.since 0 x.to∧gK (bk m x.right) x.since 0 x.to≤2147483648:=by
    rw[edel]at hto;simpa using hto
   refine⟨⟨(fun h=>by cases h),(fun _ h=>by cases h)⟩,_,rfl,?_⟩;have hb:bk (dl x (bk m x.right x.since) (kU .registerTitle .int m (RT x.right x.since)))=iK x (bk m):=by
    unfold dl;rw[e2,bt (by omega) (by omega),Bw,edel];funext r
    unfold iK;by_cases h:r=x.right
    ·subst h;simp only[if_true];unfold Bv;rw[if_neg hn,if_pos k1]
    ·simp only[if_neg h]
   exact⟨hstep _ (by unfold dl;exact(kF _ _ _ kdel).1) hb,hb⟩
  ·have b1:(x.kind==1)=false:=by simpa using k1
   rw[b1];simp only[cond_false];by_cases k2:x.kind=2
   ·have b2:(x.kind==2)=true:=by simp[k2]
    rw[b2];simp only[cond_true];obtain⟨p1,p2,p3⟩:=HN (hx.split k2) hv.1 hv.2 kdel (M:=1073741824 - bk m x.right x.since) (by omega) egood;refine⟨⟨(fun h=>by cases h),fun _ _=>⟨fun _=>p1,(fun h=>by cases h)⟩⟩,_,rfl,?_⟩;have hb:bk (ci x (bk m x.right x.since) (kU .registerTitle .int m (RT x.right x.since)))=iK x (bk m):=by
     rw[p3,edel];funext r
     unfold iK;by_cases h:r=x.right
     ·subst h;simp only[if_true];unfold Bv;rw[if_neg hn,if_neg k1,if_pos k2]
     ·simp only[if_neg h]
    exact⟨hstep _ p2 hb,hb⟩
   ·have b2:(x.kind==2)=false:=by simpa using k2
    rw[b2];simp only[cond_false];have k3:x.kind=3:=by rcases hx.kind with h|h|h|h <;>omega
    have b3:(x.kind==3)=true:=by simp[k3]
    rw[b3];simp only[cond_true];refine⟨⟨(fun h=>by cases h),fun _ _=>⟨(fun h=>by cases h),(fun _ h=>by cases h)⟩⟩,_,rfl,?_⟩;have hb:bk (kU .registerTitle .int m (RT x.right x.since))=iK x (bk m):=by
     rw[edel];funext r
     unfold iK;by_cases h:r=x.right
     ·subst h;simp only[if_true];unfold Bv;rw[if_neg hn,if_neg k1,if_neg k2]
     ·simp only[if_neg h]
    exact⟨hstep _ kdel hb,hb⟩
theorem z8 {d:District}(ds:List Deed):∀ (l:List Deed),(∀ x∈l,Fit d x∧x.kind≠4)→∀ (e:List Int) (m:BM),MapOk d m→(e.length+l.length)*8≤eu→
  okL (bT ds) (dm ds) l (e,m)∧∃ m',ct (bT ds) l (e,m)=.inr (e++MW l (bk m),m')∧MapOk d m'∧bk m'=pz l (bk m)
 | [],_,e,m,hm,_=>⟨trivial,m,by simp[ct,MW],hm,rfl⟩
 |x::l,h,e,m,hm,hB=>by
  simp only[List.length_cons]at hB;obtain⟨h1,h2⟩:=h x List.mem_cons_self;obtain⟨q1,m1,q2,q3,q4⟩:=MX (ds:=ds) h1 h2 (e:=e) hm (by omega);have hlen:(e++(if bk m x.right x.since=0 then [x.no]else [])).length≤e.length+1:=by split <;>simp
  obtain⟨r1,m2,r2,r3,r4⟩:=z8 ds l (fun y hy=>h y (List.mem_cons_of_mem _ hy)) (e++(if bk m x.right x.since=0 then [x.no]else [])) m1 q3 (by omega);refine⟨⟨q1,fun s hs=>by rw[q2]at hs;cases hs;exact r1⟩,m2,?_,r3,?_⟩
  ·simp only[ct,q2];rw[r2,q4,List.append_assoc];rfl
  ·rw[r4,q4];rfl
def B0 (d:District):Int→Int→Int:=fun r f=>if 0≤r∧r< (d.rights.length:Int)∧(d.rights.getD r.toNat default).kind=1∧(d.rights.getD r.toNat default).farm=f then(d.rights.getD r.toNat default).litres else 0
structure TakeOk (d:District)(x:Right):Prop where
 f0:0≤x.farm
 f1:x.farm< (d.farms.length:Int)
 l0:1≤x.litres
 l1:x.litres≤1073741824
theorem wu {d:District}(h:aw d=0){k:Nat}(hk:k<d.rights.length)(ht:(d.rights.getD k default).kind=1):TakeOk d (d.rights.getD k default):=by
 have:=((ny d).1 h).2.2.2.2.2.2.2.1 k hk;unfold dF at this;rw[j5]at this;have h2:cS d (d.rights.getD k default)=true:=by
  cases h3:cS d (d.rights.getD k default)with
  |true=>rfl
  |false=>rw[h3]at this;cases this
 unfold cS at h2;cases h4:((!(bE (d.rights.getD k default).farm (d.farms.length:Int))) ||(!(bE (d.rights.getD k default).reach (d.reaches.length:Int)))) ||(!(ap ([0,(d.rights.getD k default).since,(d.rights.getD k default).to,(i64.wrap (d.hours - 1))])))with
 |true=>rw[h4]at h2;cases h2
 |false=>
  rw[h4,show((d.rights.getD k default).kind==1)=true by rw[ht];rfl]at h2;simp only[cond_true,cond_false,Bool.and_eq_true]at h2;simp only[Bool.or_eq_false_iff,Bool.not_eq_false']at h4;have h5:=h4.1.1;unfold bE at h5;simp only[Bool.and_eq_true,decide_eq_true_eq]at h5;have h6:=tT h2.1.2;exact⟨by omega,by omega,by omega,by omega⟩
theorem P4 {d:District}(h:aw d=0)(r:Int):∃ L,L≤1073741824∧Good d.farms.length L (B0 d r):=by
 by_cases hr:0≤r∧r< (d.rights.length:Int)∧(d.rights.getD r.toNat default).kind=1
 ·have ht:=wu h (k:=r.toNat) (by omega) hr.2.2;have hl:=ht.l0;refine⟨(d.rights.getD r.toNat default).litres,ht.l1,?_⟩;have e:B0 d r=gK (fun _=>0) (d.rights.getD r.toNat default).farm (d.rights.getD r.toNat default).litres:=by
   funext f
   unfold B0 gK;by_cases hf:f=(d.rights.getD r.toNat default).farm
   ·rw[if_pos ⟨hr.1,hr.2.1,hr.2.2,hf.symm⟩,if_pos hf]
   ·rw[if_neg (fun h=>hf h.2.2.2.symm),if_neg hf]
  have t0:∀ n,tot n (fun _=>0)=0:=fun n=>by
   induction n with
   |zero=>rfl
   |succ n ih=>unfold tot;rw[ih];rfl
  rw[e];exact Good.put (L:=0) ⟨fun _=>Int.le_refl _,fun f hf=>absurd rfl hf,by rw[t0];exact Int.le_refl _⟩ ht.f0 ht.f1 (by omega) (by rw[t0];omega)
 ·refine⟨0,by omega,?_⟩;have e:B0 d r=fun _=>0:=by
   funext f
   unfold B0;rw[if_neg (fun h=>hr ⟨h.1,h.2.1,h.2.2.1⟩)]
  have t0:∀ n,tot n (fun _=>0)=0:=fun n=>by
   induction n with
   |zero=>rfl
   |succ n ih=>unfold tot;rw[ih];rfl
  rw[e];exact⟨fun _=>Int.le_refl _,fun f hf=>absurd rfl hf,by rw[t0];exact Int.le_refl _⟩
theorem Kl {d:District}(h:aw d=0):∃ m,aq (bS d) d.rights.length 0 []=.inr m∧MapOk d m∧bk m=B0 d:=by
 obtain⟨m,h1,h2,h3⟩:=nz (step:=bS d) (fun k (m:BM) =>(eL m).Nodup∧bk m=fun r f=>if r< (k:Int)then B0 d r f else 0) d.rights.length 0 ([]:BM) ⟨by simp[eL],by
   funext r f
   by_cases hr:r< ((0:Nat):Int)
   ·rw[if_pos hr];unfold B0 bk;rw[if_neg (by omega)];rfl
   ·rw[if_neg hr];rfl⟩ (fun j m _ hj ⟨j1,j2⟩ =>by
  rw[Nat.zero_add]at hj;unfold bS;by_cases hk:(d.rights.getD j default).kind=1
  ·rw[show((d.rights.getD j default).kind==1)=true by rw[hk];rfl];refine⟨_,rfl,(kF _ _ _ j1).1,?_⟩;rw[Bw,j2];funext r f
   by_cases hr:r=(j:Int)
   ·subst hr;simp only[if_true];unfold gK B0;dsimp only;rw[if_pos (by omega:(j:Int) < ((j+1:Nat):Int)),Int.toNat_natCast];by_cases hf:f=(d.rights.getD j default).farm
    ·rw[if_pos hf,if_pos ⟨by omega,by omega,hk,hf.symm⟩]
    ·rw[if_neg hf,if_neg (by omega),if_neg (fun h=>hf h.2.2.2.symm)]
   ·simp only[if_neg hr];by_cases h2:r< (j:Int)
    ·rw[if_pos h2,if_pos (by omega)]
    ·rw[if_neg h2,if_neg (by omega)]
  ·rw[show((d.rights.getD j default).kind==1)=false by simpa using hk];refine⟨_,rfl,j1,?_⟩;rw[j2];funext r f
   by_cases hr:r=(j:Int)
   ·subst hr;rw[if_neg (by omega),if_pos (by omega)];unfold B0;rw[if_neg (fun h=>hk (by rw[Int.toNat_natCast]at h;exact h.2.2.1))]
   ·by_cases h2:r< (j:Int)
    ·rw[if_pos h2,if_pos (by omega)]
    ·rw[if_neg h2,if_neg (by omega)])
 have e:bk m=B0 d:=by
  rw[h3];funext r f
  split
  ·rfl
  ·unfold B0;rw[if_neg (by omega)]
 refine⟨m,h1,⟨h2,fun r=>?_⟩,e⟩;rw[e];exact P4 h r
theorem HO {d:District}(h:aw d=0){ds:List Deed}(hd:∀ x∈ds,Fit d x∧x.kind≠4)(hl:ds.length≤512):
  g6 d ds∧∃ m,dv d ds=(m,wa (MW ds (B0 d)))∧MapOk d m∧bk m=pz ds (B0 d):=by
 obtain⟨m0,e0,o0,b0⟩:=Kl h;obtain⟨q1,m1,q2,q3,q4⟩:=z8 (d:=d) ds ds hd [] m0 o0 (by simp only[List.length_nil];unfold eu;omega);rw[List.nil_append]at q2;rw[b0]at q2 q4;refine⟨fun _ z hz=>?_,m1,?_,q3,q4⟩
 ·rw[e0]at hz;cases hz;refine⟨Kh ds,?_⟩;rw[re];exact q1
 ·unfold dv;rw[e0,re];simp only[q2]
def j7 (d:District)(l:List Deed)(hour known:Int):Int→Int→Int:=pz (stS (Bt l hour known)) (B0 d)
def Gp (d:District)(B:Int→Int→Int)(r f:Nat):Option Holding:=if 0<B r f then some { right:=(r:Int),farm:=(f:Int),litres:=B r f,rank:=(d.rights.getD r default).rank}else none
def ga (d:District)(B:Int→Int→Int)(r:Nat):List Holding:=(List.range d.farms.length).filterMap (Gp d B r)
def jE (d:District)(B:Int→Int→Int):List Holding:=(List.range d.rights.length).flatMap (ga d B)
theorem j8 {d:District}{B:Int→Int→Int}{r:Nat}{x:Holding}:x∈ga d B r↔∃ f:Nat,f<d.farms.length∧0<B r f∧x= { right:=(r:Int),farm:=(f:Int),litres:=B r f,rank:=(d.rights.getD r default).rank}:=by
 unfold ga Gp;rw[List.mem_filterMap];constructor
 ·rintro⟨f,hf,h⟩;rw[List.mem_range]at hf;split at h
  ·rename_i h0;exact⟨f,hf,h0,(Option.some.inj h).symm⟩
  ·cases h
 ·rintro⟨f,hf,h0,rfl⟩;exact⟨f,List.mem_range.2 hf,by rw[if_pos h0]⟩
theorem rg {d:District}{B:Int→Int→Int}{x:Holding}:x∈jE d B↔0≤x.right∧x.right< (d.rights.length:Int)∧0≤x.farm∧x.farm< (d.farms.length:Int)∧0<x.litres∧x.litres=B x.right x.farm∧x.rank=(d.rights.getD x.right.toNat default).rank:=by
 unfold jE;rw[List.mem_flatMap];constructor
 ·rintro⟨r,hr,hx⟩;rw[List.mem_range]at hr;obtain⟨f,hf,h0,rfl⟩:=j8.1 hx;exact⟨by simp only;omega,by simp only;omega,by simp only;omega,by simp only;omega,h0,rfl,by simp only[Int.toNat_natCast]⟩
 ·rintro⟨a,b,c,e,h0,h1,h2⟩;refine⟨x.right.toNat,List.mem_range.2 (by omega),j8.2 ⟨x.farm.toNat,by omega,?_,?_⟩⟩
  ·rw[Int.toNat_of_nonneg a,Int.toNat_of_nonneg c];omega
  ·rw[Int.toNat_of_nonneg a,Int.toNat_of_nonneg c,←h1,←h2]
theorem Dg:∀ n:Nat,(List.range n).Pairwise (· < ·):=fun n=>List.pairwise_lt_range
theorem o7 (d:District)(B:Int→Int→Int):(jE d B).Pairwise hlt:=by
 unfold jE;rw[List.pairwise_flatMap];refine⟨fun r _=>?_,?_⟩
 ·unfold ga;rw[List.pairwise_filterMap];refine(Dg _).imp fun {a b} hab x hx y hy=>?_;unfold Gp at hx hy;split at hx
  ·split at hy
   ·cases hx;cases hy;exact Or.inr ⟨rfl,Or.inl (by show(a:Int) < (b:Int);omega)⟩
   ·cases hy
  ·cases hx
 ·refine(Dg _).imp fun {a b} hab x hx y hy=>?_;obtain⟨f,_,_,rfl⟩:=j8.1 hx;obtain⟨g,_,_,rfl⟩:=j8.1 hy;simp only[hlt,ma,and_false,or_false];omega
theorem MY (x:Holding):¬hlt x x:=by simp only[hlt,ma,and_false,or_false];omega
theorem HP {l:List Holding}(h:l.Pairwise hlt):l.Nodup:=h.imp fun {a b} hab e=>by subst e;exact MY _ hab
theorem ua {α β:Type}(f:α→List β)(k:Nat):∀ l:List α,(∀ a∈l,(f a).length≤k)→(l.flatMap f).length≤l.length*k
 | [],_=>by simp
 |a::l,h=>by
  have h1:=h a List.mem_cons_self;have h2:=ua f k l fun b hb=>h b (List.mem_cons_of_mem _ hb);rw[List.flatMap_cons,List.length_append,List.length_cons,Nat.add_mul,Nat.one_mul];omega
theorem Aa {d:District}(hr:Right1 d)(B:Int→Int→Int):(jE d B).length≤153600:=by
 have h1:=ua (ga d B) 600 (List.range d.rights.length) fun r _=>Nat.le_trans (List.length_filterMap_le _ _) (by rw[List.length_range];exact hr.farms);rw[List.length_range]at h1;have:=hr.rights;show((List.range d.rights.length).flatMap (ga d B)).length≤_;have:d.rights.length*600≤256*600:=Nat.mul_le_mul_right _ this;omega
def mQ (d:District)(k:RegisterTitle×Int):Option Holding:=if 0<k.2 then some { right:=k.1.right,farm:=k.1.farm,litres:=k.2,rank:=(d.rights.getD (Int.toNat k.1.right) (default:Right)).rank}else none
theorem Bx (d:District)(l:List Deed)(h n:Int):∀ (L:BM) (s:List Holding),ct (cX d l h n) L s=.inr (s++L.filterMap (mQ d))
 | [],s=>by simp[ct]
 |k::L,s=>by
  by_cases hk:0<k.2
  ·have e:mQ d k=some { right:=k.1.right,farm:=k.1.farm,litres:=k.2,rank:=(d.rights.getD (Int.toNat k.1.right) (default:Right)).rank}:=by unfold mQ;rw[if_pos hk]
   rw[List.filterMap_cons_some e];simp only[ct];unfold cX;rw[decide_eq_true (show k.2 > 0 from hk)];simp only[cond_true];have:=Bx d l h n L (s++[{ right:=k.1.right,farm:=k.1.farm,litres:=k.2,rank:=(d.rights.getD (Int.toNat k.1.right) (default:Right)).rank}]);unfold cX at this;rw[this,List.append_assoc];rfl
  ·have e:mQ d k=none:=by unfold mQ;rw[if_neg hk]
   rw[List.filterMap_cons_none e];simp only[ct];unfold cX;rw[decide_eq_false (show ¬k.2 > 0 from hk)];simp only[cond_false];have:=Bx d l h n L s;unfold cX at this;exact this
theorem EY (d:District)(l:List Deed)(h n:Int):∀ (L:BM) (s:List Holding),(∀ k∈L,0<k.2→0≤k.1.right∧k.1.right< (d.rights.length:Int))→(s.length+(L.filterMap (mQ d)).length)*32≤eu→okL (cX d l h n) (iF d l h n) L s
 | [],_,_,_=>trivial
 |k::L,s,hk,hB=>by
  by_cases h0:0<k.2
  ·have e:mQ d k=some { right:=k.1.right,farm:=k.1.farm,litres:=k.2,rank:=(d.rights.getD (Int.toNat k.1.right) (default:Right)).rank}:=by unfold mQ;rw[if_pos h0]
   rw[List.filterMap_cons_some e,List.length_cons]at hB;refine⟨fun _=>⟨hk k List.mem_cons_self h0,by rw[List.length_append];simp only[List.length_cons,List.length_nil];omega⟩,fun s' hs=>?_⟩;unfold cX at hs;rw[decide_eq_true (show k.2 > 0 from h0)]at hs;cases hs;exact EY d l h n L _ (fun q hq=>hk q (List.mem_cons_of_mem _ hq)) (by rw[List.length_append];simp only[List.length_cons,List.length_nil];omega)
  ·have e:mQ d k=none:=by unfold mQ;rw[if_neg h0]
   rw[List.filterMap_cons_none e]at hB;refine⟨fun h=>absurd (of_decide_eq_true h) h0,fun s' hs=>?_⟩;unfold cX at hs;rw[decide_eq_false (show ¬k.2 > 0 from h0)]at hs;cases hs;exact EY d l h n L _ (fun q hq=>hk q (List.mem_cons_of_mem _ hq)) hB
theorem Gq {d:District}{r:Int}(hr:¬ (0≤r∧r< (d.rights.length:Int))):∀ (ds:List Deed) (B:Int→Int→Int),(∀ x∈ds,Fit d x∧x.kind≠4)→pz ds B r=B r
 | [],B,_=>rfl
 |x::ds,B,h=>by
  have h1:=h x List.mem_cons_self;have h2:=h1.1.held h1.2;show pz ds (iK x B) r=_;rw[Gq hr ds _ fun y hy=>h y (List.mem_cons_of_mem _ hy)];unfold iK;rw[if_neg (by omega)]
theorem qN {d:District}{l:List Deed}(h:Deeds d l)(hour known:Int):∀ x∈stS (Bt l hour known),Fit d x∧x.kind≠4:=fun x hx=>by
 have hx:=MV.1 hx;unfold Bt at hx;rw[List.mem_filter]at hx;refine⟨h.fit x hx.1,fun e=>?_⟩;have:=hx.2;rw[e]at this;simp at this
theorem MZ (l:List Deed):(stS l).length=l.length:=(rb (qM l)).symm
theorem Gr {α:Type}{a b:List α}(ha:a.Nodup)(hb:b.Nodup)(h:∀ x,x∈a↔x∈b):a.Perm b:=(List.perm_ext_iff_of_nodup ha hb).2 h
theorem HQ {d:District}{l:List Deed}(h:Deeds d l){m:BM}(hm:MapOk d m){hour known:Int}(hb:bk m=j7 d l hour known):
  (m.filterMap (mQ d)).Perm (jE d (j7 d l hour known))∧∀ k∈m,0<k.2→0≤k.1.right∧k.1.right< (d.rights.length:Int):=by
 have hget:∀ (t:RegisterTitle) (v:Int),(t,v)∈m→bk m t.right t.farm=v:=fun t v htv=>by
  have:=(t8 hm.nodup).2 htv;show(e_ m { right:=t.right,farm:=t.farm}).getD _=v;have e:({ right:=t.right,farm:=t.farm}:RegisterTitle)=t:=rfl;rw[e,this];rfl
 have hrng:∀ k∈m,0<k.2→0≤k.1.right∧k.1.right< (d.rights.length:Int):=fun k hk h0=>by
  rcases Classical.em (0≤k.1.right∧k.1.right< (d.rights.length:Int))with hr|hr
  ·exact hr
  ·have e:=hget k.1 k.2 hk;rw[hb]at e;unfold j7 at e;rw[Gq hr _ _ (qN h hour known)]at e;unfold B0 at e;rw[if_neg (fun h=>hr ⟨h.1,h.2.1⟩)]at e;omega
 refine⟨Gr ?_ (HP (o7 _ _)) fun x=>?_,hrng⟩
 ·rw[List.Nodup,List.pairwise_filterMap];have:m.Pairwise fun a b=>a.1≠b.1:=by
   have:=hm.nodup;unfold eL at this;rw[List.Nodup,List.pairwise_map]at this;exact this
  refine this.imp fun {a b} hab x hx y hy=>?_;unfold mQ at hx hy;split at hx
  ·split at hy
   ·cases hx;cases hy;intro e;simp only[Holding.mk.injEq]at e;refine hab ?_;obtain⟨⟨a1,a2⟩,a3⟩:=a;obtain⟨⟨b1,b2⟩,b3⟩:=b;simp only at e;simp[e.1,e.2.1]
   ·cases hy
  ·cases hx
 ·rw[List.mem_filterMap,rg];constructor
  ·rintro⟨k,hk,hx⟩;unfold mQ at hx;split at hx
   ·rename_i h0;cases hx;have e:=hget k.1 k.2 hk;obtain⟨a,b⟩:=hrng k hk h0;obtain⟨L,_,hg⟩:=hm.good k.1.right;obtain⟨c,f⟩:=hg.sup k.1.farm (by rw[e];omega);exact⟨a,b,c,f,h0,by simp only;rw[←hb,e],rfl⟩
   ·cases hx
  ·rintro⟨a,b,c,f,h0,h1,h2⟩;rw[←hb]at h1;have h3:e_ m (RT x.right x.farm)=some x.litres:=by
    have e:bk m x.right x.farm=(e_ m (RT x.right x.farm)).getD 0:=rfl;cases hg:e_ m (RT x.right x.farm)with
    |none=>rw[e,hg]at h1;simp at h1;omega
    |some v=>rw[e,hg]at h1;simp at h1;rw[h1]
   refine⟨(RT x.right x.farm,x.litres),(t8 hm.nodup).1 h3,?_⟩;unfold mQ;rw[if_pos h0];simp only[Option.some.injEq];rw[←h2]
open Go.Shelf Go.Sort in
theorem Ab {d:District}{B:Int→Int→Int}{s:List Holding}(h:s.Perm (jE d B)):apart bR s∧srt bR s=jE d B:=by
 have e1:∀ x y,ltOf bR x y=true↔hlt x y:=fun x y=>by unfold ltOf;rw[decide_eq_true_eq,xX]
 have e2:∀ x y,ltOf bR x y=false↔¬hlt x y:=fun x y=>by rw[←e1];simp
 have heq:∀ x∈jE d B,∀ y∈jE d B,¬hlt x y→¬hlt y x→x=y:=fun x hx y hy h1 h2=>by
  obtain⟨_,_,_,_,_,x1,x2⟩:=rg.1 hx;obtain⟨_,_,_,_,_,y1,y2⟩:=rg.1 hy;simp only[hlt,ma,and_false,or_false]at h1 h2;have q1:x.right=y.right:=by omega
  have q2:x.farm=y.farm:=by omega
  obtain⟨a,b,c,e⟩:=x;obtain⟨a',b',c',e'⟩:=y;simp only at q1 q2 x1 x2 y1 y2;subst q1;subst q2;rw[x1,x2,y1,y2]
 refine⟨fun x hx y hy h1 h2=>heq x (h.subset hx) y (h.subset hy) ((e2 x y).1 h1) ((e2 y x).1 h2),?_⟩;unfold srt;have hp:(s.mergeSort fun x y=>!(ltOf bR y x)).Perm (jE d B):=(List.mergeSort_perm _ _).trans h;refine List.Perm.eq_of_pairwise (le:=fun x y=>(!ltOf bR y x)=true) ?_ ?_ ?_ hp
 ·intro x y hx hy h1 h2;simp only[Bool.not_eq_true']at h1 h2;exact heq x (hp.subset hx) y hy ((e2 x y).1 h2) ((e2 y x).1 h1)
 ·refine List.pairwise_mergeSort ?_ ?_ s
  ·intro a b c h1 h2;simp only[Bool.not_eq_true']at h1 h2 ⊢;exact vz.3 c b a h2 h1
  ·intro a b;simp only[Bool.or_eq_true,Bool.not_eq_true'];rcases Classical.em (hlt b a)with hh|hh
   ·refine .inr ((e2 _ _).2 fun h3=>?_);simp only[hlt,ma,and_false,or_false]at hh h3;omega
   ·exact .inl ((e2 _ _).2 hh)
 ·refine(o7 d B).imp fun {a b} hab=>?_;simp only[Bool.not_eq_true'];refine(e2 _ _).2 fun h3=>?_;simp only[hlt,ma,and_false,or_false]at hab h3;omega
theorem yq (d:District)(l:List Deed)(hour known:Int):kT d l hour known∧
  ak d l hour known=if ar d l≠0 then([],ar d l)else if 0≤hour∧hour<d.hours∧0≤known∧known≤1048576 then(jE d (j7 d l hour known),0)else([],1):=by
 by_cases hc:ar d l=0
 ·have hD:=ow hc;have hE:=((gN d l).1 hc).1;have hh:=hD.right.hours;have hh1:=hD.right.hours1;have hw:((!(aH hour 0 (i64.wrap (d.hours - 1)))) ||(!(aH known 0 1048576)))= !decide (0≤hour∧hour<d.hours∧0≤known∧known≤1048576):=by
   rw[bt (by omega) (by omega),←Bool.not_and];congr 1
   rw[Bool.eq_iff_iff,Bool.and_eq_true,uQ,uQ,decide_eq_true_eq];omega
  obtain⟨c1,c2⟩:=Dd l hour known hD.len;have hlen:(stS (Bt l hour known)).length≤512:=by rw[MZ];exact Nat.le_trans (List.length_filter_le _ _) hD.len
  obtain⟨f1,m,f2,f3,f4⟩:=HO hE (qN hD hour known) hlen;obtain⟨p1,p2⟩:=HQ hD f3 (hour:=hour) (known:=known) f4;have key:∀ L:BM,L.Perm m→(L.filterMap (mQ d)).Perm (jE d (j7 d l hour known)):=fun L hL=>(hL.filterMap _).trans p1;have val:ak d l hour known=if 0≤hour∧hour<d.hours∧0≤known∧known≤1048576 then(jE d (j7 d l hour known),0)else([],1):=by
   unfold ak;rw[hc,hw,c2,f2];simp only[bne_self_eq_false,cond_false];by_cases hg:0≤hour∧hour<d.hours∧0≤known∧known≤1048576
   ·rw[decide_eq_true hg,if_pos hg];simp only[Bool.not_true,cond_false];rw[Bx,List.nil_append];simp only;rw[(Ab (key m (List.Perm.refl _))).2]
   ·rw[decide_eq_false hg,if_neg hg];rfl
  refine⟨⟨ov d l,(fun h=>by rw[hc]at h;cases h),fun _=>⟨fun h=>?_,fun h=>?_⟩⟩,by rw[if_neg (by simp[hc])];exact val⟩
  ·rw[hw]at h;rw[val,if_neg (by simpa only[Bool.not_eq_true',decide_eq_false_iff_not]using h)]
  ·rw[hw]at h;have hg:0≤hour∧hour<d.hours∧0≤known∧known≤1048576:=by simpa using h
   rw[c2,f2];refine⟨c1,f1,fun L hL=>?_⟩;have hk:=key L hL;refine⟨EY d l hour known L [] (fun k hk=>p2 k (hL.subset hk)) ?_,fun s hs=>?_⟩
   ·have h1:=hk.length_eq;have h2:=Aa hD.right (j7 d l hour known);rw[h1,List.length_nil];unfold eu;omega
   ·rw[Bx,List.nil_append]at hs;cases hs;obtain⟨s1,s2⟩:=Ab hk;exact⟨s1,by rw[s2,val,if_pos hg]⟩
 ·have hne:(ar d l !=0)=true:=by simpa using hc
  have val:ak d l hour known=([],ar d l):=by unfold ak;rw[hne];rfl
  refine⟨⟨ov d l,(fun _=>val.symm),fun h=>?_⟩,by rw[if_pos hc];exact val⟩;rw[hne]at h;cases h
theorem M0 {l:List Deed}(h:Asc l){x y:Deed}(hx:x∈l)(hy:y∈l)(e:x.no=y.no):x=y:=by
 rw[←yn h hx,←yn h hy,e]
theorem Deeds.target {d:District}{l:List Deed}(h:Deeds d l){x y:Deed}(hx:x∈l)(hk:x.kind=4)(hy:y∈l)(e:y.no=x.of_):y.kind≠4∧y.known≤x.known∧y.no<x.no:=by
 obtain⟨z,hz,h1,h2,h3,h4⟩:=h.void x hx hk;have:y=z:=M0 h.asc hy hz (by rw[e,h1]);rw[this];exact⟨h2,h3,h4⟩
theorem Gs {d:District}{r:Int}{L:Int}:∀ (ds:List Deed) (B:Int→Int→Int),(∀ x∈ds,Fit d x∧x.kind≠4)→Good d.farms.length L (B r)→Good d.farms.length L (pz ds B r)∧((∀ x∈ds,x.right=r→x.kind≠3)→tot d.farms.length (pz ds B r)=tot d.farms.length (B r))
 | [],B,_,hg=>⟨hg,fun _=>rfl⟩
 |x::ds,B,h,hg=>by
  have hx:=h x List.mem_cons_self;have h1:Good d.farms.length L (iK x B r)∧((x.right=r→x.kind≠3)→tot d.farms.length (iK x B r)=tot d.farms.length (B r)):=by
   unfold iK;by_cases e:r=x.right
   ·rw[if_pos e];obtain⟨q1,q2⟩:=Df hx.1 hx.2 hg;exact⟨q1,fun hk=>q2 (hk e.symm)⟩
   ·rw[if_neg e];exact⟨hg,fun _=>rfl⟩
  obtain⟨q1,q2⟩:=Gs ds (iK x B) (fun y hy=>h y (List.mem_cons_of_mem _ hy)) h1.1;exact⟨q1,fun hk=>(q2 fun y hy=>hk y (List.mem_cons_of_mem _ hy)).trans (h1.2 (hk x List.mem_cons_self))⟩
theorem Dh {d:District}{r:Int}(hr:¬ (0≤r∧r< (d.rights.length:Int)∧(d.rights.getD r.toNat default).kind=1)):∀ (ds:List Deed) (B:Int→Int→Int),(∀ x∈ds,Fit d x∧x.kind≠4)→pz ds B r=B r
 | [],B,_=>rfl
 |x::ds,B,h=>by
  have h1:=h x List.mem_cons_self;have h2:=h1.1.held h1.2;show pz ds (iK x B) r=_;rw[Dh hr ds _ fun y hy=>h y (List.mem_cons_of_mem _ hy)];unfold iK;rw[if_neg (fun e=>hr (by rw[e];exact⟨h2.1,h2.2.1,h2.2.2.1⟩))]
theorem t0:∀ n,tot n (fun _=>0)=0:=fun n=>by
 induction n with
 |zero=>rfl
 |succ n ih=>unfold tot;rw[ih];rfl
theorem M3 {d:District}(h:aw d=0){k:Nat}(hk:k<d.rights.length)(ht:(d.rights.getD k default).kind=1):Good d.farms.length (d.rights.getD k default).litres (B0 d k)∧tot d.farms.length (B0 d k)=(d.rights.getD k default).litres:=by
 have hto:=wu h hk ht;have hl:=hto.l0;have e:B0 d k=gK (fun _=>0) (d.rights.getD k default).farm (d.rights.getD k default).litres:=by
  funext f
  unfold B0 gK;rw[Int.toNat_natCast];by_cases hf:f=(d.rights.getD k default).farm
  ·rw[if_pos ⟨by omega,by omega,ht,hf.symm⟩,if_pos hf]
  ·rw[if_neg (fun h=>hf h.2.2.2.symm),if_neg hf]
 rw[e];refine⟨Good.put (L:=0) ⟨fun _=>Int.le_refl _,fun f hf=>absurd rfl hf,by rw[t0];exact Int.le_refl _⟩ hto.f0 hto.f1 (by omega) (by rw[t0];omega),?_⟩;rw[o6 _ _ _ _ hto.f0 hto.f1,t0];omega
theorem M4 {d:District}{r:Int}(hr:¬ (0≤r∧r< (d.rights.length:Int)∧(d.rights.getD r.toNat default).kind=1)):B0 d r=fun _=>0:=by
 funext f
 unfold B0;rw[if_neg (fun h=>hr ⟨h.1,h.2.1,h.2.2.1⟩)]
structure Held (d:District)(B:Int→Int→Int):Prop where
 nn:∀ r f,0≤B r f
 take:∀ k,k<d.rights.length→(d.rights.getD k default).kind=1→Good d.farms.length (d.rights.getD k default).litres (B k)
 other:∀ r:Int,¬ (0≤r∧r< (d.rights.length:Int)∧(d.rights.getD r.toNat default).kind=1)→B r=fun _=>0
theorem yr {d:District}(h:aw d=0){ds:List Deed}(hd:∀ x∈ds,Fit d x∧x.kind≠4):Held d (pz ds (B0 d)):=by
 have ht:∀ k,k<d.rights.length→(d.rights.getD k default).kind=1→Good d.farms.length (d.rights.getD k default).litres (pz ds (B0 d) k):=fun k hk hkk=>(Gs ds _ hd (M3 h hk hkk).1).1;have ho:∀ r:Int,¬ (0≤r∧r< (d.rights.length:Int)∧(d.rights.getD r.toNat default).kind=1)→pz ds (B0 d) r=fun _=>0:=fun r hr=>(Dh hr ds _ hd).trans (M4 hr);refine⟨fun r f=>?_,ht,ho⟩;by_cases hr:0≤r∧r< (d.rights.length:Int)∧(d.rights.getD r.toNat default).kind=1
 ·have:=(ht r.toNat (by omega) hr.2.2).nn f
  rwa[Int.toNat_of_nonneg hr.1]at this
 ·rw[ho r hr];exact Int.le_refl _
theorem Held.le {d:District}{B:Int→Int→Int}(h:Held d B)(he:aw d=0)(r f:Int):B r f≤1073741824:=by
 by_cases hr:0≤r∧r< (d.rights.length:Int)∧(d.rights.getD r.toNat default).kind=1
 ·have hg:=h.take r.toNat (by omega) hr.2.2;have ht:=wu he (k:=r.toNat) (by omega) hr.2.2;have:=hg.le (by have:=ht.l0;omega) f;rw[Int.toNat_of_nonneg hr.1]at this;have:=ht.l1;omega
 ·rw[h.other r hr];simp
theorem Held.tot {d:District}{B:Int→Int→Int}(h:Held d B)(he:aw d=0){k:Nat}(hk:k<d.rights.length):0≤Go.Sx.tot d.farms.length (B k)∧Go.Sx.tot d.farms.length (B k)≤1073741824:=by
 refine⟨EV (h.nn k) _,?_⟩;by_cases hkk:(d.rights.getD k default).kind=1
 ·have:=(h.take k hk hkk).tot;have:=(wu he hk hkk).l1;omega
 ·rw[h.other k (fun hr=>hkk (by rw[Int.toNat_natCast]at hr;exact hr.2.2)),t0];omega
def RowL (F:Nat)(s:List Int)(g:Int→Int):Prop:=s.length=F∧∀ f:Nat,f<F→s.getD f 0=g (f:Int)
theorem RowL.set {F:Nat}{s:List Int}{g:Int→Int}(h:RowL F s g){f v:Int}(h0:0≤f)(h1:f< (F:Int)):RowL F (s.set f.toNat v) (gK g f v):=by
 refine⟨by rw[List.length_set];exact h.1,fun i hi=>?_⟩;have hl:=h.1;unfold gK;by_cases e:i=f.toNat
 ·subst e;rw[if_pos (by omega),List.getD_eq_getElem?_getD,List.getElem?_set_self (by omega)];rfl
 ·rw[if_neg (by omega),List.getD_eq_getElem?_getD,List.getElem?_set_ne (fun h=>e h.symm),←List.getD_eq_getElem?_getD,h.2 i hi]
theorem RowL.get {F:Nat}{s:List Int}{g:Int→Int}(h:RowL F s g){f:Int}(h0:0≤f)(h1:f< (F:Int)):s.getD f.toNat 0=g f:=by
 rw[h.2 f.toNat (by omega),Int.toNat_of_nonneg h0]
theorem sf {d:District}{B:Int→Int→Int}{r:Nat}(h:B r=fun _=>0):ga d B r=[]:=by
 rw[List.eq_nil_iff_forall_not_mem];intro x hx;obtain⟨f,_,h0,_⟩:=j8.1 hx;rw[h]at h0;exact absurd h0 (Int.lt_irrefl 0)
def Km (x:Right)(h:Int):Bool:=decide (x.since≤h)&&decide (h≤x.to)&&decide (Int.tmod (h - x.since) x.every<x.length)
def opn (d:District)(h:Int)(x:Holding):Option Claim:=if Km (d.rights.getD (Int.toNat x.right) (default:Right)) h=true then some { right:=x.right,farm:=x.farm,hour:=h,litres:=x.litres,rank:=x.rank}else none
def g7 (d:District)(l:List Deed)(h k:Int):List Claim:=(ak d l h k).1.filterMap (opn d h)
structure TakeR (d:District)(x:Right):Prop where
 since0:0≤x.since
 every:1≤x.every
 rank0:0≤x.rank
 farm0:0≤x.farm
theorem EZ {d:District}(h:aw d=0){k:Nat}(hk:k<d.rights.length)(ht:(d.rights.getD k default).kind=1):TakeR d (d.rights.getD k default):=by
 have:=((ny d).1 h).2.2.2.2.2.2.2.1 k hk;unfold dF at this;rw[j5]at this;have h2:cS d (d.rights.getD k default)=true:=by
  cases h3:cS d (d.rights.getD k default)with
  |true=>rfl
  |false=>rw[h3]at this;cases this
 unfold cS at h2;cases h4:((!(bE (d.rights.getD k default).farm (d.farms.length:Int))) ||(!(bE (d.rights.getD k default).reach (d.reaches.length:Int)))) ||(!(ap ([0,(d.rights.getD k default).since,(d.rights.getD k default).to,(i64.wrap (d.hours - 1))])))with
 |true=>rw[h4]at h2;cases h2
 |false=>
  rw[h4,show((d.rights.getD k default).kind==1)=true by rw[ht];rfl]at h2;simp only[cond_true,cond_false,Bool.and_eq_true]at h2;simp only[Bool.or_eq_false_iff,Bool.not_eq_false']at h4;have h5:=h4.1.1;unfold bE at h5;simp only[Bool.and_eq_true,decide_eq_true_eq]at h5;have h6:=tT h2.1.1.2;have h7:=tU h2.2;have h8:=tU h4.2;exact⟨by omega,by omega,by omega,by omega⟩
theorem E0 {d:District}{l:List Deed}{h k:Int}{x:Holding}(hx:x∈(ak d l h k).1):aw d=0∧(0≤h∧h<d.hours)∧0≤x.right∧x.right< (d.rights.length:Int)∧0≤x.farm∧x.farm< (d.farms.length:Int)∧0<x.litres∧x.litres≤1073741824∧x.rank=(d.rights.getD x.right.toNat default).rank∧(d.rights.getD x.right.toNat default).kind=1:=by
 rw[(yq d l h k).2]at hx;by_cases hc:ar d l=0
 ·rw[if_neg (by simp[hc])]at hx;by_cases hg:0≤h∧h<d.hours∧0≤k∧k≤1048576
  ·rw[if_pos hg]at hx;have he:=((gN d l).1 hc).1;obtain⟨a,b,c,e,f,g,i⟩:=rg.1 hx;have hH:=yr he (qN (ow hc) h k);refine⟨he,⟨hg.1,hg.2.1⟩,a,b,c,e,f,?_,i,?_⟩
   ·rw[g];exact hH.le he _ _
   ·rcases Classical.em ((d.rights.getD x.right.toNat default).kind=1)with hk|hk
    ·exact hk
    ·have:=hH.other x.right (fun hh=>hk hh.2.2);rw[g]at f;unfold j7 at f;rw[this]at f;exact absurd f (by simp)
  ·rw[if_neg hg]at hx;cases hx
 ·rw[if_pos hc]at hx;cases hx
theorem P5 {d:District}{l:List Deed}{h k:Int}:(ak d l h k).1.length≤600*d.rights.length∧(ak d l h k).1.length≤153600:=by
 rw[(yq d l h k).2];by_cases hc:ar d l=0
 ·rw[if_neg (by simp[hc])];by_cases hg:0≤h∧h<d.hours∧0≤k∧k≤1048576
  ·rw[if_pos hg];have hR:=(ow hc).right;refine⟨?_,Aa hR _⟩;have:=ua (ga d (j7 d l h k)) 600 (List.range d.rights.length) fun r _=>by
    unfold ga;refine Nat.le_trans (List.length_filterMap_le _ _) ?_;rw[List.length_range];exact hR.farms
   rw[List.length_range]at this;unfold jE;rw[Nat.mul_comm];exact this
  ·rw[if_neg hg];simp
 ·rw[if_pos hc];simp
theorem HR (d:District)(l:List Deed)(h k:Int):(ak d l h k).1.Pairwise hlt:=by
 rw[(yq d l h k).2];split
 ·exact List.Pairwise.nil
 ·split
  ·exact o7 _ _
  ·exact List.Pairwise.nil
theorem HS (d:District)(l:List Deed)(h k:Int):(g7 d l h k).length≤600*d.rights.length∧(g7 d l h k).length≤153600:=by
 have:= @P5 d l h k;have h2:=List.length_filterMap_le (opn d h) (ak d l h k).1;unfold g7;omega
theorem yu {d:District}{h:Int}{x:Holding}{c:Claim}(e:opn d h x=some c):Km (d.rights.getD (Int.toNat x.right) (default:Right)) h=true∧c= { right:=x.right,farm:=x.farm,hour:=h,litres:=x.litres,rank:=x.rank}:=by
 unfold opn at e;split at e
 ·rename_i h0;exact⟨h0,(Option.some.inj e).symm⟩
 ·cases e
structure ClaimOk (d:District)(h:Int)(c:Claim):Prop where
 exp:aw d=0
 hour:c.hour=h
 h0:0≤h
 h1:h<d.hours
 r0:0≤c.right
 r1:c.right< (d.rights.length:Int)
 f0:0≤c.farm
 f1:c.farm< (d.farms.length:Int)
 l0:0<c.litres
 l1:c.litres≤1073741824
 rank:c.rank=(d.rights.getD c.right.toNat default).rank
 kind:(d.rights.getD c.right.toNat default).kind=1
theorem yw {d:District}{l:List Deed}{h k:Int}{c:Claim}(hc:c∈g7 d l h k):ClaimOk d h c:=by
 unfold g7 at hc;rw[List.mem_filterMap]at hc;obtain⟨x,hx,e⟩:=hc;obtain⟨_,rfl⟩:=yu e;obtain⟨a0,⟨a,b⟩,c,e,f,g,i,j,m,n⟩:=E0 hx;exact⟨a0,rfl,a,b,c,e,f,g,i,j,m,n⟩
theorem vK (d:District)(l:List Deed)(h k:Int):(g7 d l h k).Pairwise fun a b=>¬ (a.right=b.right∧a.farm=b.farm):=by
 unfold g7;rw[List.pairwise_filterMap];refine(HR d l h k).imp fun {a b} hab x hx y hy=>?_;obtain⟨_,rfl⟩:=yu hx;obtain⟨_,rfl⟩:=yu hy;simp only[hlt,ma,and_false,or_false]at hab ⊢;omega
theorem Kn {a b:Claim}(h:¬ (a.right=b.right∧a.farm=b.farm)):mO a b∨mO b a:=by
 simp only[mO,ma,and_false,or_false];omega
theorem yx {a b c:Claim}(h1:mO a b)(h2:mO b c):mO a c:=by simp only[mO,ma,and_false,or_false]at *;omega
def zb (l:List Claim)(x:Claim):List Claim:=l.takeWhile (fun y=>decide (dN y x<0))++x::l.dropWhile (fun y=>decide (dN y x<0))
def pm (d:District)(l:List Deed)(h k:Int):List Claim:=(g7 d l h k).foldl zb []
theorem HT (l:List Claim)(x:Claim):(zb l x).Perm (x::l):=by
 unfold zb;refine List.perm_middle.trans ?_;rw[List.takeWhile_append_dropWhile]
theorem HU {l:List Claim}{x:Claim}(hs:l.Pairwise mO):∀ y∈l.dropWhile (fun y=>decide (dN y x<0)),¬mO y x:=by
 induction l with
 |nil=>intro y hy;cases hy
 |cons z l ih=>
  rw[List.pairwise_cons]at hs;intro y hy;rw[List.dropWhile_cons]at hy;split at hy
  ·exact ih hs.2 y hy
  ·rename_i hz;have hz:¬mO z x:=fun h=>hz (decide_eq_true ((ye z x).2 h));rcases List.mem_cons.1 hy with rfl|hy
   ·exact hz
   ·exact fun h=>hz (yx (hs.1 y hy) h)
theorem Ko {l:List Claim}{x:Claim}:∀ y∈l.takeWhile (fun y=>decide (dN y x<0)),mO y x:=by
 induction l with
 |nil=>intro y hy;cases hy
 |cons z l ih=>
  intro y hy;rw[List.takeWhile_cons]at hy;split at hy
  ·rename_i hz;rcases List.mem_cons.1 hy with rfl|hy
   ·exact(ye y x).1 (of_decide_eq_true hz)
   ·exact ih y hy
  ·cases hy
theorem Di {l:List Claim}{x:Claim}(hs:l.Pairwise mO)(hx:∀ y∈l,¬ (x.right=y.right∧x.farm=y.farm)):(zb l x).Pairwise mO:=by
 have hl:=List.takeWhile_append_dropWhile (p:=fun y=>decide (dN y x<0)) (l:=l);unfold zb;have h1:=Ko (l:=l) (x:=x);have h2:=HU (x:=x) hs;have hm:∀ y∈l.dropWhile (fun y=>decide (dN y x<0)),y∈l:=fun y hy=>(List.dropWhile_sublist _).subset hy;have h3:∀ y∈l.dropWhile (fun y=>decide (dN y x<0)),mO x y:=fun y hy=>by
  rcases Kn (hx y (hm y hy))with h|h
  ·exact h
  ·exact absurd h (h2 y hy)
 rw[←hl,List.pairwise_append]at hs;rw[List.pairwise_append,List.pairwise_cons];refine⟨hs.1,⟨h3,hs.2.1⟩,fun a ha b hb=>?_⟩;rcases List.mem_cons.1 hb with rfl|hb
 ·exact h1 a ha
 ·exact yx (h1 a ha) (h3 b hb)
theorem yy:∀ (r s:List Claim),s.Pairwise mO→(r.Pairwise fun a b=>¬ (a.right=b.right∧a.farm=b.farm))→(∀ a∈s,∀ b∈r,¬ (a.right=b.right∧a.farm=b.farm))→(r.foldl zb s).Perm (s++r)∧(r.foldl zb s).Pairwise mO
 | [],s,hs,_,_=>⟨by simp,hs⟩
 |x::r,s,hs,hr,hsr=>by
  rw[List.pairwise_cons]at hr;have hp:=HT s x;obtain⟨h1,h2⟩:=yy r (zb s x) (Di hs fun y hy h=>hsr y hy x (by simp) ⟨h.1.symm,h.2.symm⟩) hr.2 fun a ha b hb=>by
   rcases List.mem_cons.1 (hp.subset ha)with rfl|ha
   ·exact hr.1 b hb
   ·exact hsr a ha b (by simp[hb])
  exact⟨(h1.trans (hp.append_right r)).trans List.perm_middle.symm,h2⟩
theorem yz (d:District)(l:List Deed)(h k:Int):(pm d l h k).Perm (g7 d l h k):=by
 have:=(yy (g7 d l h k) [] List.Pairwise.nil (vK d l h k) (fun a ha=>by cases ha)).1;rw[List.nil_append]at this;exact this
theorem By (d:District)(l:List Deed)(h k:Int):(pm d l h k).Pairwise mO:=(yy (g7 d l h k) [] List.Pairwise.nil (vK d l h k) (fun a ha=>by cases ha)).2
theorem oy {d:District}{l:List Deed}{h k:Int}{c:Claim}(hc:c∈pm d l h k):ClaimOk d h c:=yw ((yz d l h k).subset hc)
theorem yA {ρ α β:Type}{step:Nat→List β→ρ⊕List β}(l:List α)(d:α)(f:α→Option β)(s0:List β)(h:∀ k s,k<l.length→step k s=.inr (s++(f (l.getD k d)).toList)):aq step l.length 0 s0=.inr (s0++l.filterMap f):=by
 obtain⟨r,h1,h2⟩:=nz (step:=step) (fun k s=>s=s0++(l.take k).filterMap f) l.length 0 s0 (by simp) (fun j s _ hj hs=>by
  rw[Nat.zero_add]at hj;refine⟨_,h j s hj,?_⟩;rw[cy l d hj,List.filterMap_append,hs,List.append_assoc];cases hc:f (l.getD j d)with
  |none=>rw[List.filterMap_cons_none hc];rfl
  |some c=>rw[List.filterMap_cons_some hc];rfl)
 rw[h1,h2,Nat.zero_add,List.take_length]
theorem Bz {ρ α β:Type}{step:Nat→List β→ρ⊕List β}{p:Nat→List β→Prop}(l:List α)(d:α)(f:α→Option β)(s0:List β)(h:∀ k s,k<l.length→step k s=.inr (s++(f (l.getD k d)).toList))(hp:∀ k,k<l.length→p k (s0++(l.take k).filterMap f)):okI step p l.length 0 s0:=by
 refine wn (fun k s=>s=s0++(l.take k).filterMap f) _ _ _ (by simp) fun j s _ hj hs=>⟨by rw[hs];exact hp j (by omega),fun s' e=>?_⟩;rw[h j s (by omega)]at e;cases e;rw[cy l d (by omega),List.filterMap_append,hs,List.append_assoc];cases hc:f (l.getD j d)with
 |none=>rw[List.filterMap_cons_none hc];rfl
 |some c=>rw[List.filterMap_cons_some hc];rfl
theorem sg {α β:Type}(l:List α)(f:α→Option β)(k:Nat):((l.take k).filterMap f).length≤(l.filterMap f).length:=by
 have:=congrArg List.length (congrArg (List.filterMap f) (List.take_append_drop k l));rw[List.filterMap_append,List.length_append]at this;omega
theorem M5 {α β:Type}(l:List α)(d:α)(f:α→Option β){k:Nat}(hk:k<l.length){c:β}(hc:f (l.getD k d)=some c):(l.filterMap f)[((l.take k).filterMap f).length]? =some c:=by
 have e:l=l.take k++l.getD k d::l.drop (k+1):=by
  rw[eC l d hk,←List.drop_eq_getElem_cons hk,List.take_append_drop]
 conv=>lhs;arg 1;rw[e]
 rw[List.filterMap_append,List.filterMap_cons_some hc];simp
theorem M6 {β:Type}{step:Nat→List β×Int→List β⊕(List β×Int)}{p:Nat→List β×Int→Prop}(fr to:Int)(G:Int→List β)(h0:0≤fr)(h1:to<4096)(hft:fr≤to+1)
  (hs:∀ k s h,fr≤h→h≤to→step k (s,h)=.inr (s++G h,i64.wrap (h+1))) (he:∀ k s h,to<h→step k (s,h)=.inl s)
  (hp:∀ k h,fr≤h→h≤to+1→p k ((hrs fr (h - 1)).flatMap G,h)):okI step p 4098 0 ([],fr)∧aq step 4098 0 ([],fr)=.inl ((hrs fr to).flatMap G):=by
 obtain⟨a,r,b,c⟩:=wb (step:=step) (p:=p) (fun s=>(to+1 - s.2).toNat) (fun s=>(fr≤s.2∧s.2≤to+1)∧s.1=(hrs fr (s.2 - 1)).flatMap G) (fun r=>r=(hrs fr to).flatMap G) (fun k s hJ=>by
  obtain⟨s,h⟩:=s;obtain⟨⟨j1,j2⟩,j3⟩:=hJ;simp only at j1 j2 j3;subst j3;refine⟨hp k h j1 j2,?_⟩;by_cases hh:h≤to
  ·refine .inr ⟨_,hs k _ h j1 hh,?_⟩;simp only;rw[bt (by omega) (by omega)];refine⟨by omega,⟨by omega,by omega⟩,?_⟩;rw[show h+1 - 1=(h - 1)+1 by omega,C4 (by omega),List.flatMap_append,show h - 1+1=h by omega];simp
  ·refine .inl ⟨_,he k _ h (by omega),?_⟩;rw[show h - 1=to by omega]) 4098 0 ([],fr) ⟨⟨Int.le_refl _,hft⟩,by rw[MQ (by simp only;omega)];rfl⟩ (by simp only;omega)
 exact⟨a,by rw[b,c]⟩
theorem Ac {d:District}{x:Right}{h:Int}(ht:TakeR d x)(h0:0≤h)(h1:h<4096):(((decide (h<x.since)) ||(decide (h > x.to))) ||(decide ((Int.tmod (i64.wrap (h - x.since)) x.every)≥x.length)))= !Km x h:=by
 have:=ht.since0;unfold Km;by_cases hs:x.since≤h
 ·rw[bt (by omega) (by omega),decide_eq_true hs,decide_eq_false (show ¬h<x.since by omega)];by_cases ht:h≤x.to
  ·rw[decide_eq_true ht,decide_eq_false (show ¬h > x.to by omega)];simp only[Bool.false_or,Bool.true_and];rw[←decide_not];exact decide_eq_decide.2 (by omega)
  ·rw[decide_eq_false ht,decide_eq_true (show h > x.to by omega)];rfl
 ·rw[decide_eq_false hs,decide_eq_true (show h<x.since by omega)];rfl
theorem yB {α:Type}(l:List α)(d:α){k:Nat}(hk:k<l.length):l.getD k d∈l:=by rw[eC l d hk];exact List.getElem_mem hk
theorem Gt {d:District}{l:List Deed}{h k:Int}{j:Nat}(hj:j< (ak d l h k).1.length):((0≤((ak d l h k).1.getD j default).right∧((ak d l h k).1.getD j default).right< (d.rights.length:Int))∧(0≤h∧h<4096))∧TakeR d (d.rights.getD (Int.toNat ((ak d l h k).1.getD j default).right) default)∧(d.rights.getD (Int.toNat ((ak d l h k).1.getD j default).right) default).kind=1:=by
 obtain⟨a,⟨b1,b2⟩,c,e,f,g,i,m,n,o⟩:=E0 (yB _ default hj);have:=(lp (by rw[a];rfl)).hours;exact⟨⟨⟨c,e⟩,b1,by omega⟩,EZ a (by omega) o,o⟩
theorem BA (d:District)(l:List Deed)(h k:Int):dK d l h k=g7 d l h k∧gI d l h k ((dK d l h k).map uU):=by
 have hstep:∀ j s,j< (ak d l h k).1.length→ez d l h k j s=.inr (s++(opn d h ((ak d l h k).1.getD j default)).toList):=fun j s hj=>by
  obtain⟨⟨⟨a,b⟩,c,e⟩,ht,_⟩:=Gt hj;unfold ez opn;rw[Ac ht c e];cases Km (d.rights.getD (Int.toNat ((ak d l h k).1.getD j default).right) default) h <;>simp
 have hv:aq (ez d l h k) ((ak d l h k).1).length 0 []=.inr (g7 d l h k):=by
  rw[yA _ default (opn d h) [] hstep];rfl
 have e:dK d l h k=g7 d l h k:=by unfold dK;rw[hv]
 refine⟨e,(yq d l h k).1,fun _=>⟨Bz _ default (opn d h) [] hstep fun j hj=>?_,fun s hs=>?_⟩⟩
 ·obtain⟨⟨⟨a,b⟩,c,f⟩,ht,_⟩:=Gt hj;refine⟨⟨a,b⟩,fun _=>by have:=ht.every;omega,fun hc=>?_⟩;rw[Ac ht c f]at hc;have hop:opn d h ((ak d l h k).1.getD j default)=some { right:=((ak d l h k).1.getD j default).right,farm:=((ak d l h k).1.getD j default).farm,hour:=h,litres:=((ak d l h k).1.getD j default).litres,rank:=((ak d l h k).1.getD j default).rank}:=by
   unfold opn;rw[if_pos (by simpa using hc)]
  rw[e,List.nil_append,List.getElem?_map];unfold g7;rw[M5 _ default (opn d h) hj hop];rfl
 ·rw[hv]at hs;cases hs;rw[e,List.length_map]
def BB (d:District)(f h r:Int):Bool:= !(ev d f r h)
def pn (d:District)(f:Int):List Int:=(c7 d (d.farms.getD (Int.toNat f) default).reach).reverse
def rD (d:District)(f h:Int):Int:=((pn d f).find? (BB d f h)).getD (-1)
def fnd (d:District)(h:Int)(c:Claim):ClaimsFound:= { claim:=c,reach:=rD d c.farm h}
theorem M7 {α:Type}(P:α→Bool)(K:List α)(x:α)(R:List α)(h1:P x=true)(h2:∀ y∈K,P y=false):(K++x::R).find? P=some x:=by
 induction K with
 |nil=>simp[h1]
 |cons y K ih=>rw[List.cons_append,List.find?_cons,h2 y (by simp)];exact ih fun z hz=>h2 z (by simp[hz])
theorem Ad {d:District}{f:Int}(he:aw d=0)(h0:0≤f)(h1:f< (d.farms.length:Int)):PathOk d (d.farms.getD (Int.toNat f) default).reach:=by
 have hR:=lp (by rw[he];rfl);have:=hR.farm f.toNat (by omega);exact⟨he,this.1,this.2⟩
theorem E1 {d:District}{h:Int}{c:Claim}(hl:d.rights.length≤256)(l:List Int):(aV l (be d h) c<0∧l.find? (BB d c.farm h)=none)∨∃ j:Nat,j<l.length∧aV l (be d h) c=(j:Int)∧l.find? (BB d c.farm h)=some (l.getD j 0):=by
 have:=Dc (step:=dS l (be d h) c) l 0 (BB d c.farm h) (fun k hk=>by
  unfold dS l5 BB;rw[PS d h c.farm _ hl])
 unfold aV;rcases this with⟨e,hn⟩ | ⟨K,x,R,rfl,e,hx,hK⟩
 ·rw[e];exact .inl ⟨by decide,List.find?_eq_none.2 fun x hx=>by rw[hn x hx];simp⟩
 ·rw[e];refine .inr ⟨K.length,by simp,rfl,?_⟩;rw[M7 _ K x R hx hK,jm K x 0 R rfl]
def sM (d:District)(l:List Deed)(k fr to:Int):List ClaimsFound:=(hrs fr to).flatMap fun h=>(g7 d l h k).map (fnd d h)
def fB (d:District)(l:List Deed)(k fr to:Int):List ClaimsFound:=(hrs fr to).flatMap fun h=>(pm d l h k).map (fnd d h)
theorem M8 {d:District}(l:List Deed)(k:Int)(s0:List ClaimsFound×Int){c:Claim}(hc:ClaimOk d s0.2 c)(s:List ClaimsFound):dX d l k s0 c s=.inr (s++[fnd d s0.2 c])∧((s.length+1)*48≤eu→eT d l k s0 c s):=by
 have hR:=lp (by rw[hc.exp];rfl);have hP:=Ad hc.exp hc.f0 hc.f1;have hpath:=yc hP;unfold dX eT;rw[hpath];simp only;rcases E1 (d:=d) (h:=s0.2) (c:=c) hR.rights (c7 d (d.farms.getD (Int.toNat c.farm) default).reach).reverse with⟨hi,hf⟩ | ⟨j,hj,hi,hf⟩
 ·rw[decide_eq_false (show ¬_≥(0:Int) by omega)];refine⟨?_,fun hB=>⟨⟨hc.f0,hc.f1⟩,sa _ _,fun h=>by(first|done|cases h),fun _=>by rw[List.length_append];exact hB⟩⟩;simp only[cond_false,fnd,rD,pn,hf,Option.getD_none]
 ·rw[hi,decide_eq_true (show(j:Int)≥0 by omega)];refine⟨?_,fun hB=>⟨⟨hc.f0,hc.f1⟩,sa _ _,fun _=>⟨⟨by omega,by omega⟩,by rw[List.length_append];exact hB⟩,fun h=>by(first|done|cases h)⟩⟩;simp only[cond_true,fnd,rD,pn,hf,Option.getD_some,Int.toNat_natCast]
theorem E2 {d:District}(l:List Deed)(k:Int)(s0:List ClaimsFound×Int):∀ (L:List Claim) (s:List ClaimsFound),(∀ c∈L,ClaimOk d s0.2 c)→ct (dX d l k s0) L s=.inr (s++L.map (fnd d s0.2))∧((s.length+L.length)*48≤eu→okL (dX d l k s0) (eT d l k s0) L s)
 | [],s,_=>⟨by simp[ct],fun _=>trivial⟩
 |c::L,s,h=>by
  obtain⟨h1,h2⟩:=M8 l k s0 (h c (by simp)) s;obtain⟨h3,h4⟩:=E2 l k s0 L (s++[fnd d s0.2 c]) fun x hx=>h x (by simp[hx]);refine⟨?_,fun hB=>?_⟩
  ·rw[ct,h1];simp only;rw[h3];simp
  ·rw[List.length_cons]at hB;refine⟨h2 (by omega),fun s' e=>?_⟩;rw[h1]at e;cases e;exact h4 (by rw[List.length_append,List.length_singleton];omega)
theorem yC {d:District}{l:List Deed}{k fr to:Int}:(sM d l k fr to).length≤(to+1 - fr).toNat*(600*d.rights.length):=by
 unfold sM;have:=ua (fun h=>(g7 d l h k).map (fnd d h)) (600*d.rights.length) (hrs fr to) fun h _=>by rw[List.length_map];exact(HS d l h k).1
 rwa[MR]at this
theorem yD (d:District)(l:List Deed)(k fr to:Int):(sM d l k fr to).Perm (fB d l k fr to):=HI fun h _=>(yz d l h k).symm.map _
theorem BC (d:District)(l:List Deed)(k fr to:Int):(fB d l k fr to).Pairwise fun x y=>dO x y<0:=by
 unfold fB;refine MS (PY fr to) (fun h _=>?_) fun a _ b _ hab x hx y hy=>?_
 ·rw[List.pairwise_map];exact(By d l h k).imp fun {x y} hxy=>(yf _ _).2 hxy
 ·obtain⟨x',hx',rfl⟩:=List.mem_map.1 hx;obtain⟨y',hy',rfl⟩:=List.mem_map.1 hy;have h1:=(oy hx').hour;have h2:=(oy hy').hour;refine(yf _ _).2 ?_;simp only[fnd,mO,ma,and_false,or_false];omega
def mR (d:District)(fr to k:Int):Prop:=(0≤fr∧fr≤to∧to<d.hours)∧0≤k∧k≤1048576
instance (d:District)(fr to k:Int):Decidable (mR d fr to k):=by unfold mR;infer_instance
def oz (d:District)(l:List Deed)(fr to k:Int):Int:=if ar d l≠0 then ar d l else if ¬mR d fr to k then 1 else if 4096< (to - fr+1)*(d.rights.length:Int)then 2 else 0
theorem P6 (d:District)(fr to k:Int):(((((decide (fr<0)) ||(decide (fr > to))) ||(decide (to≥d.hours))) ||(decide (k<0))) ||(decide (k > 1048576)))= !decide (mR d fr to k):=by
 rw[Bool.eq_iff_iff,Bool.not_eq_true',decide_eq_false_iff_not];simp only[Bool.or_eq_true,decide_eq_true_eq];unfold mR;omega
theorem P7 {d:District}{fr to k:Int}(hR:Right1 d)(h:mR d fr to k):i64.wrap ((i64.wrap ((i64.wrap (to - fr))+1))*(d.rights.length:Int))=(to - fr+1)*(d.rights.length:Int):=by
 obtain⟨⟨a,b,c⟩,e,f⟩:=h;have h1:=hR.hours;have h2:=hR.rights;rw[bt (n:=to - fr) (by omega) (by omega),bt (n:=to - fr+1) (by omega) (by omega)];have h3:(to - fr+1)*(d.rights.length:Int)≤4096*256:=Int.mul_le_mul (by omega) (by omega) (by omega) (by omega);have h4:0≤(to - fr+1)*(d.rights.length:Int):=Int.mul_nonneg (by omega) (by omega);exact bt (by omega) (by omega)
theorem sN {d:District}{fr to k:Int}(h:mR d fr to k)(h4:¬4096< (to - fr+1)*(d.rights.length:Int)){n:Nat}(hn:n≤(to+1 - fr).toNat*(600*d.rights.length)):n≤2457600:=by
 obtain⟨⟨a,b,c⟩,e,f⟩:=h;have e1:(((to+1 - fr).toNat*(600*d.rights.length):Nat):Int)=600*((to - fr+1)*(d.rights.length:Int)):=by
  push_cast
  rw[Int.toNat_of_nonneg (by omega),show to+1 - fr=to - fr+1 by omega];rw[←Int.mul_assoc,Int.mul_comm _ 600,Int.mul_assoc]
 omega
theorem Kp (d:District)(l:List Deed)(fr to k:Int):iG d l fr to k∧aD d l fr to k=if oz d l fr to k=0 then(fB d l k fr to,0)else([],oz d l fr to k):=by
 unfold iG aD oz;rw[P6];by_cases hc:ar d l=0
 ·rw[hc];simp only[bne_self_eq_false,cond_false,ne_eq,not_true,if_false];have hD:=ow hc;have hR:=hD.right;by_cases ha:mR d fr to k
  ·rw[P7 hR ha,decide_eq_true ha];simp only[Bool.not_true,cond_false,not_true,if_false];by_cases hb:4096< (to - fr+1)*(d.rights.length:Int)
   ·rw[decide_eq_true hb,if_pos hb];exact⟨⟨ov d l,fun _ _ _ h=>by cases h⟩,by rw[if_neg (not_not_intro ha)];rfl⟩
   ·rw[decide_eq_false hb,if_neg hb];simp only[cond_false,if_true];have hrun:=M6 (step:=eE d l to k) (p:=gJ d l to k) fr to (fun h=>(g7 d l h k).map (fnd d h)) ha.1.1 (by have:=ha.1.2.2;have:=hR.hours;omega) (by have:=ha.1.2.1;omega)
     (fun j s h h1 h2=>by
      unfold eE;simp only;rw[decide_eq_true h2,(BA d l h k).1];simp only[cond_true];rw[(E2 l k (s,h) (g7 d l h k) s fun c hc=>yw hc).1])
     (fun j s h h1=>by unfold eE;simp only;rw[decide_eq_false (by omega)];rfl)
     (fun j h h1 h2=>by
      unfold gJ;simp only;intro hle;have hle:h≤to:=of_decide_eq_true hle;refine⟨(BA d l h k).2,?_⟩;rw[(BA d l h k).1];refine(E2 l k (_,h) (g7 d l h k) _ fun c hc=>yw hc).2 ?_;have h3:((hrs fr (h - 1)).flatMap fun h=>(g7 d l h k).map (fnd d h)).length+(g7 d l h k).length=(sM d l k fr h).length:=by
       unfold sM;have:=C4 (a:=fr) (b:=h - 1) (by omega);rw[show h - 1+1=h by omega]at this;rw[this,List.flatMap_append];simp
      have h4:(sM d l k fr h).length≤(to+1 - fr).toNat*(600*d.rights.length):=Nat.le_trans yC (Nat.mul_le_mul_right _ (by omega));have h5:=sN ha hb h4;rw[h3];unfold eu;omega)
    obtain⟨r1,r2⟩:=hrun;have hS:=EO zT (yD d l k fr to) (BC d l k fr to);have r2':aq (eE d l to k) 4098 0 ([],fr)=.inl (sM d l k fr to):=r2;rw[r2'];simp only;rw[hS.2];refine⟨⟨ov d l,fun _ _ _ _=>⟨r1,fun z hz=>by(first|done|cases hz),fun x hx=>?_⟩⟩,by rw[if_neg (not_not_intro ha)];rfl⟩;cases hx;exact hS.1
  ·rw[decide_eq_false ha,if_pos ha];simp only[Bool.not_false,cond_true];exact⟨⟨ov d l,fun _ h=>by cases h⟩,rfl⟩
 ·have hne:(ar d l !=0)=true:=by simpa using hc
  rw[hne];simp only[cond_true,ne_eq,hc,not_false_eq_true,if_true,if_false];exact⟨⟨ov d l,fun h=>by cases h⟩,trivial⟩
end Go.Sx
end
