/- Part of the proof that the law RegisterAtSpec returns true and leaves its arguments as they were, for all arguments of bulk at most 1048576 (the Upto form). -/
import Derived.Test.YthcbieoehjhjfaaGreatC509
import Derived.Test.YthcbieoehjhjfaaGreatC510
import Derived.Test.YthcbieoehjhjfaaGreatC508
import Derived.Test.YthcbieoehjhjfaaGreatC507
import Derived.Shelf.SlSortCmp.NoneTotal
import Derived.Ground.SlsfProg
import Derived.Test.YthcbieoehjhjfaaGreatProg
set_option linter.all false
set_option maxHeartbeats 4000000
section
namespace Go.Sx
open Go.Proofs
theorem Cc:∀ (l:List Deed) (n:Int),pO .int .deed (oc l) n=l.any fun y=>y.no==n:=fun l n=>by
 have:∀ (r:List Deed),pO .int .deed (oc r.reverse) n=r.reverse.any fun y=>y.no==n:=fun r=>by
  induction r with
  |nil=>rfl
  |cons x r ih=>
   rw[List.reverse_cons,qU,Gg,ih,List.any_append]
   simp only[List.any_cons,List.any_nil,Bool.or_false]
   rw[Bool.or_comm]
   congr 1
   by_cases h:n=x.no
   ·subst h;simp
   ·have:¬x.no=n:=fun e=>h e.symm
    simp[h,this]
 simpa using this l.reverse
theorem qy {l:List Deed}(h:Asc l){y:Deed}(hy:y∈l):dz .int .deed (oc l) y.no=y:=by
 have:∀ (r:List Deed),Asc r.reverse→∀ y∈r,dz .int .deed (oc r.reverse) y.no=y:=fun r=>by
  induction r with
  |nil=>simp
  |cons x r ih=>
   intro hA y hy
   rw[List.reverse_cons]at hA ⊢
   obtain⟨a1,_,a3⟩:=List.pairwise_append.1 hA
   rw[qU,oO]
   rcases List.mem_cons.1 hy with rfl|hy
   ·rw[if_pos rfl]
   ·have:=a3 y (by simpa using hy) x (by simp)
    rw[if_neg (show ¬y.no=x.no by omega)]
    exact ih a1 y hy
 simpa using this l.reverse (by simpa using h) y (by simpa using hy)
structure Fit (d:District)(x:Deed):Prop where
 no0:0≤x.no
 no1:x.no≤1048576
 at0:0≤x.at_
 at1:x.at_≤4096
 kn0:0≤x.known
 kn1:x.known≤1048576
 kind:x.kind=1∨x.kind=2∨x.kind=3∨x.kind=4
 held:x.kind≠4→0≤x.right∧x.right< (d.rights.length:Int)∧(d.rights.getD (Int.toNat x.right) default).kind=1∧0≤x.since∧x.since< (d.farms.length:Int)
 pass:x.kind=1→0≤x.to∧x.to< (d.farms.length:Int)∧x.to≠x.since
 split:x.kind=2→PartsOk d x.parts
theorem IJ {d:District}{m:List (Int×Deed)}{x:Deed}(hf:d.farms.length≤600)(hr:d.rights.length≤256)(h:ca d m x=true):Fit d x∧(x.kind=4→pO .int .deed m x.of_=true∧(dz .int .deed m x.of_).kind≠4∧(dz .int .deed m x.of_).known≤x.known):=by
 unfold ca at h
 cases h0:((((!(an x.no 0 1048576)) ||(!(an x.at_ 0 4096))) ||(!(an x.known 0 1048576))) ||(!(gW x)))with
 |true=>rw[h0]at h;cases h
 |false=>
  rw[h0]at h
  simp only[Bool.or_eq_false_iff,Bool.not_eq_false']at h0
  obtain⟨⟨⟨a1,a2⟩,a3⟩,a4⟩:=h0
  rw[oa]at a1 a2 a3
  simp only[cond_false]at h
  by_cases k1:x.kind=1
  ·rw[show(x.kind==1)=true by simp[k1]]at h
   simp only[cond_true,Bool.and_eq_true,beq_iff_eq,bne_iff_ne]at h
   obtain⟨⟨⟨⟨b1,b2⟩,b3⟩,b4⟩,b5⟩:=h
   rw[qs _ (by omega)]at b1 b3 b4
   exact⟨⟨a1.1,a1.2,a2.1,a2.2,a3.1,a3.2,.inl k1,fun _=>⟨b1.1,b1.2,b2,b3.1,b3.2⟩,fun _=>⟨b4.1,b4.2,b5⟩,fun e=>by omega⟩,fun e=>by omega⟩
  ·rw[show(x.kind==1)=false by simpa using k1]at h
   by_cases k2:x.kind=2
   ·rw[show(x.kind==2)=true by simp[k2]]at h
    simp only[cond_true,cond_false,Bool.and_eq_true,beq_iff_eq]at h
    obtain⟨⟨⟨b1,b2⟩,b3⟩,b4⟩:=h
    rw[qs _ (by omega)]at b1 b3
    exact⟨⟨a1.1,a1.2,a2.1,a2.2,a3.1,a3.2,.inr (.inl k2),fun _=>⟨b1.1,b1.2,b2,b3.1,b3.2⟩,fun e=>by omega,fun _=>Ix hf b4⟩,fun e=>by omega⟩
   ·rw[show(x.kind==2)=false by simpa using k2]at h
    by_cases k3:x.kind=3
    ·rw[show(x.kind==3)=true by simp[k3]]at h
     simp only[cond_true,cond_false,Bool.and_eq_true,beq_iff_eq]at h
     obtain⟨⟨b1,b2⟩,b3⟩:=h
     rw[qs _ (by omega)]at b1 b3
     exact⟨⟨a1.1,a1.2,a2.1,a2.2,a3.1,a3.2,.inr (.inr (.inl k3)),fun _=>⟨b1.1,b1.2,b2,b3.1,b3.2⟩,fun e=>by omega,fun e=>by omega⟩,fun e=>by omega⟩
    ·rw[show(x.kind==3)=false by simpa using k3]at h
     by_cases k4:x.kind=4
     ·rw[show(x.kind==4)=true by simp[k4]]at h
      simp only[cond_true,cond_false,Bool.and_eq_true,bne_iff_ne,decide_eq_true_eq]at h
      obtain⟨⟨b1,b2⟩,b3⟩:=h
      exact⟨⟨a1.1,a1.2,a2.1,a2.2,a3.1,a3.2,.inr (.inr (.inr k4)),fun e=>absurd k4 e,fun e=>by omega,fun e=>by omega⟩,fun _=>⟨b1,b2,b3⟩⟩
     ·rw[show(x.kind==4)=false by simpa using k4]at h
      simp only[cond_false]at h
      cases h
structure Deeds (d:District)(l:List Deed):Prop where
 right:Right1 d
 len:l.length≤512
 asc:Asc l
 fit:∀ x∈l,Fit d x
 void:∀ x∈l,x.kind=4→∃ y∈l,y.no=x.of_∧y.kind≠4∧y.known≤x.known∧y.no<x.no
theorem E2 {d:District}:∀ {r b:List Deed},Chk d b r→∀ x∈r,∃ b',(∃ t,b++r=b'++x::t)∧ca d (oc b') x=true
 | [],_,_,x,hx=>by cases hx
 |y::r,b,⟨h1,h2,h3⟩,x,hx=>by
  rcases List.mem_cons.1 hx with rfl|hx
  ·exact⟨b,⟨r,rfl⟩,h2⟩
  ·obtain⟨b',⟨t,e⟩,h⟩:=E2 h3 x hx
   exact⟨b',⟨t,by rw[←e];simp⟩,h⟩
theorem qz {d:District}{l:List Deed}(h:aq d l=0):Deeds d l:=by
 obtain⟨h1,h2,_,h4⟩:=(oP d l).1 h
 have hr:=u0 (d:=d) (by rw[h1];rfl)
 have hA:=Chk.asc List.Pairwise.nil h4
 rw[List.nil_append]at hA
 have hf:∀ x∈l,∃ b',(∃ t,l=b'++x::t)∧ca d (oc b') x=true:=fun x hx=>by
  have:=E2 h4 x hx
  simpa using this
 refine⟨hr,h2,hA,fun x hx=>?_,fun x hx hk=>?_⟩
 ·obtain⟨b,_,h⟩:=hf x hx
  exact(IJ hr.farms hr.rights h).1
 ·obtain⟨b,⟨t,e⟩,h⟩:=hf x hx
  obtain⟨q1,q2,q3⟩:=(IJ hr.farms hr.rights h).2 hk
  rw[Cc,List.any_eq_true]at q1
  obtain⟨y,hy,hn⟩:=q1
  have hn:y.no=x.of_:=by simpa using hn
  rw[e]at hA
  have hAb:Asc b:=(List.pairwise_append.1 hA).1
  rw[←hn,qy hAb hy]at q2 q3
  exact⟨y,by rw[e];exact List.mem_append_left _ hy,hn,q2,q3,(List.pairwise_append.1 hA).2.2 y hy x List.mem_cons_self⟩
def iA (l:List Deed)(known n:Int):Bool:=l.any fun v=>v.kind==4&&decide (v.known≤known)&&v.of_==n
def ph (l:List Deed)(hour known:Int):List Deed:=l.filter fun x=>!((((x.kind==4) ||(decide (x.known > known))) ||(decide (x.at_ > hour))) ||iA l known x.no)
theorem IK (l:List Deed)(known:Int):∃ m,ak (dN l known) l.length 0 []=.inr m∧∀ n,dz .int .bool m n=iA l known n:=by
 obtain⟨r,h1,h2⟩:=iO (step:=dN l known) (fun k m=>∀ n,dz .int .bool m n=iA (l.take k) known n) l.length 0 ([]:List (Int×Bool)) (fun n=>by simp[dz,fc,dE,iA]) (fun j s _ hj hs=>by
  rw[Nat.zero_add]at hj
  unfold dN
  rw[bH l default hj]
  cases hc:(((l.getD j (default:Deed)).kind==4)&&(decide ((l.getD j (default:Deed)).known≤known)))with
  |true=>
   refine⟨_,rfl,fun n=>?_⟩
   rw[oO]
   unfold iA at hs ⊢
   rw[List.any_append]
   simp only[List.any_cons,List.any_nil,Bool.or_false,hc,Bool.true_and]
   by_cases hn:n=(l.getD j (default:Deed)).of_
   ·subst hn;simp
   ·rw[if_neg hn,hs]
    have:((l.getD j (default:Deed)).of_==n)=false:=by simp only[beq_eq_false_iff_ne];exact fun e=>hn e.symm
    rw[this,Bool.or_false]
  |false=>
   refine⟨_,rfl,fun n=>?_⟩
   rw[hs]
   unfold iA
   rw[List.any_append]
   simp only[List.any_cons,List.any_nil,Bool.or_false,hc,Bool.false_and])
 refine⟨r,h1,fun n=>?_⟩
 rw[h2,Nat.zero_add,List.take_length]
theorem IL (K G:List Deed):((wa .deed (K++G) (K.length:Int) ((K++G).length:Int)).take K.length)=K:=by
 unfold wa
 simp only[Int.toNat_natCast]
 split
 ·rename_i h
  rw[List.length_append]at h
  have:G=[]:=List.eq_nil_of_length_eq_zero (by omega)
  subst this;simp
 ·simp
theorem Cd {α:Type}{step:Nat→Unit→Int⊕Unit}(l:List α)(d:α)(P:α→Bool)(h:∀ k,k<l.length→step k ()=bif P (l.getD k d)then .inl (k:Int)else .inr ()):(ak step l.length 0 ()=.inr ()∧∀ x∈l,P x=false)∨∃ K x R,l=K++x::R∧ak step l.length 0 ()=.inl (K.length:Int)∧P x=true∧∀ y∈K,P y=false:=by
 have key:∀ (R K:List α),l=K++R→(∀ y∈K,P y=false)→(ak step R.length K.length ()=.inr ()∧∀ x∈l,P x=false)∨∃ K' x R',l=K'++x::R'∧ak step R.length K.length ()=.inl (K'.length:Int)∧P x=true∧∀ y∈K',P y=false:=fun R=>by
  induction R with
  |nil=>exact fun K h hK=>.inl ⟨rfl,fun x hx=>hK x (by rw[h]at hx;simpa using hx)⟩
  |cons x R ih=>
   intro K hl hK
   have e:=h K.length (by rw[hl];simp)
   have g:l.getD K.length d=x:=by rw[hl];simp[List.getD_eq_getElem?_getD]
   rw[g]at e
   simp only[List.length_cons,ak,e]
   cases hx:P x with
   |true=>exact .inr ⟨K,x,R,hl,rfl,hx,hK⟩
   |false=>
    simp only[cond_false]
    have:=ih (K++[x]) (by rw[hl];simp) (fun y hy=>by
     rcases List.mem_append.1 hy with hy|hy
     ·exact hK y hy
     ·simp at hy;subst hy;exact hx)
    rw[List.length_append]at this
    exact this
 exact key l [] rfl (by simp)
theorem Gl (l:List Deed)(known hour:Int)(v:List (Int×Bool))(hl:l.length<2 ^ 47):aZ l known hour v∧aS l known hour v=l.filter fun x=>!aQ x known hour v:=by
 have hI:(ai l known hour v= -1∧∀ x∈l,aQ x known hour v=false)∨∃ K x R,l=K++x::R∧ai l known hour v=(K.length:Int)∧aQ x known hour v=true∧∀ y∈K,aQ y known hour v=false:=by
  unfold ai
  rcases Cd (step:=c9 l known hour v) l default (fun x=>aQ x known hour v) (fun k _=>rfl)with⟨e,h⟩ | ⟨K,x,R,h1,e,h2,h3⟩
  ·rw[e];exact .inl ⟨rfl,h⟩
  ·rw[e];exact .inr ⟨K,x,R,h1,rfl,h2,h3⟩
 unfold aZ aS
 rcases hI with⟨e,h⟩ | ⟨K,x,R,hl0,e,h2,h3⟩
 ·rw[e]
  refine⟨(fun h=>by cases h),?_⟩
  simp only[BEq.rfl,cond_true]
  exact(List.filter_eq_self.2 fun x hx=>by rw[h x hx];rfl).symm
 ·have b:((K.length:Int) == -1)=false:=by simp only[beq_eq_false_iff_ne];omega
  have hlen:l.length=K.length+(R.length+1):=by rw[hl0];simp
  have w:IntKind.i64.wrap ((K.length:Int)+1)=((K.length+1:Nat):Int):=by rw[aT (by omega) (by omega)];omega
  rw[e,w]
  simp only[b,cond_false]
  obtain⟨k1,r,k2,K',G',rfl,k3⟩:okI (aM l known hour v) (bG l known hour v) (l.length+1) 0 (l,(K.length:Int),((K.length+1:Nat):Int))∧∃ r,ak (aM l known hour v) (l.length+1) 0 (l,(K.length:Int),((K.length+1:Nat):Int))=.inl r∧∃ K' G',r=((K'.length:Int),K'++G')∧K'=l.filter fun x=>!aQ x known hour v:=by
   refine vB (fun s:List Deed×Int×Int=>((l.length:Int) - s.2.2).toNat) (fun s:List Deed×Int×Int=>∃ K' g G' R',s=(K'++g::(G'++R'),(K'.length:Int),((K'.length+(G'.length+1):Nat):Int))∧K'.length+(G'.length+1)+R'.length=l.length∧(l.filter fun x=>!aQ x known hour v)=K'++R'.filter fun x=>!aQ x known hour v) _ ?_ _ _ _ ⟨K,x,[],R,by rw[hl0];simp,by rw[hlen];simp;omega,?_⟩ (by simp only;omega)
   ·rintro k s ⟨K',g,G',R',rfl,hn,hF⟩
    have hL:(K'++g::(G'++R')).length=l.length:=by rw[←hn];simp;omega
    unfold bG aM
    simp only[hL]
    cases R' with
    |nil=>
     have e1:decide (((K'.length+(G'.length+1):Nat):Int) < (l.length:Int))=false:=by rw[decide_eq_false_iff_not];simp only[List.length_nil]at hn;omega
     simp only[e1,cond_false]
     exact⟨(fun _ h=>by cases h),.inl ⟨_,rfl,K',g::(G'++[]),rfl,by simpa using hF.symm⟩⟩
    |cons y R'=>
     simp only[List.length_cons]at hn
     have e1:decide (((K'.length+(G'.length+1):Nat):Int) < (l.length:Int))=true:=by rw[decide_eq_true_eq];omega
     have gy:(K'++g::(G'++y::R')).getD (K'.length+(G'.length+1)) default=y:=by
      have:K'++g::(G'++y::R')=(K'++g::G')++y::R':=by simp
      rw[this];exact kC _ _ _ _ (by simp)
     have w1:IntKind.i64.wrap (((K'.length+(G'.length+1):Nat):Int)+1)=((K'.length+(G'.length+1)+1:Nat):Int):=by rw[aT (by omega) (by omega)];omega
     have w2:IntKind.i64.wrap ((K'.length:Int)+1)=((K'.length+1:Nat):Int):=by rw[aT (by omega) (by omega)];omega
     simp only[e1,cond_true,Int.toNat_natCast,gy,w1,w2]
     refine⟨fun _ _=>⟨by omega,fun _=>by omega⟩,.inr ?_⟩
     cases hy:aQ y known hour v with
     |false=>
      obtain⟨g',G2,hG⟩:∃ g' G2,G'++[y]=g'::G2:=by
       cases G' with
       |nil=>exact⟨y,[],rfl⟩
       |cons a b=>exact⟨a,b++[y],rfl⟩
      have hGl:G'.length+1=G2.length+1:=by have:=congrArg List.length hG;simpa using this
      refine⟨_,rfl,by simp only;omega,K'++[y],g',G2,R',?_,?_,?_⟩
      ·rw[pe K' g y _ rfl]
       have h1:g'::(G2++R')=G'++y::R':=by rw[←List.cons_append,←hG];simp
       rw[List.append_assoc,h1,Prod.mk.injEq,Prod.mk.injEq]
       refine⟨by simp,by simp,?_⟩
       rw[List.length_append]
       simp only[List.length_cons,List.length_nil]
       omega
      ·rw[List.length_append];simp only[List.length_cons,List.length_nil];omega
      ·rw[hF,List.filter_cons_of_pos (by rw[hy];rfl)];simp
     |true=>
      refine⟨_,rfl,by simp only;omega,K',g,G'++[y],R',?_,by rw[List.length_append];simp only[List.length_cons,List.length_nil];omega,?_⟩
      ·have:(G'++[y])++R'=G'++y::R':=by simp
       rw[this,List.length_append,Prod.mk.injEq,Prod.mk.injEq]
       exact⟨rfl,rfl,by simp only[List.length_cons,List.length_nil];omega⟩
      ·rw[hF,List.filter_cons_of_neg (by rw[hy];simp)]
   ·rw[hl0,List.filter_append,List.filter_cons_of_neg (by rw[h2];simp)]
    congr 1
    exact List.filter_eq_self.2 fun y hy=>by rw[h3 y hy];rfl
  refine⟨fun _=>⟨k1,u6 (Q:=fun _=>True) ⟨_,k2,trivial⟩,fun z hz=>?_⟩,?_⟩
  ·rw[k2]at hz;cases hz
   have:(wa .deed (K'++G') (K'.length:Int) ((K'++G').length:Int)).length=(K'++G').length:=by
    unfold wa;simp only[Int.toNat_natCast];split
    ·rfl
    ·simp <;>omega
   simp only[this]
   simp only[List.length_append]
   omega
  ·rw[k2]
   simp only[Int.toNat_natCast,List.drop_zero]
   rw[IL,k3]
theorem u_ (l:List Deed)(hour known:Int)(hl:l.length≤512):dY l hour known∧ce l hour known=stS (ph l hour known):=by
 obtain⟨m,e,hm⟩:=IK l known
 have hp:∀ x,aQ x known hour m=((((x.kind==4) ||(decide (x.known > known))) ||(decide (x.at_ > hour))) ||iA l known x.no):=fun x=>by
  unfold aQ;rw[hm]
 obtain⟨d1,d2⟩:=Gl l known hour m (by omega)
 have d3:(l.filter fun x=>!aQ x known hour m)=ph l hour known:=by unfold ph;simp only[hp]
 rw[d3]at d2
 have hlen:(ph l hour known).length≤l.length:=List.length_filter_le _ _
 obtain⟨s1,s2⟩:=B5 (ph l hour known) (by omega)
 unfold dY ce
 rw[e]
 refine⟨fun _ z hz=>?_,?_⟩
 ·cases hz
  rw[d2]
  exact⟨by unfold gJ;omega,d1,s1⟩
 ·simp only[d2,s2]
theorem qW (l:List Deed):aC l=l:=by
 obtain⟨r,h1,h2⟩:=iO (step:=bB l) (fun k s=>s=l.take k) l.length 0 ([]:List Deed) (by simp) (fun j s _ hj hs=>⟨_,rfl,by rw[bH l default (by omega),hs]⟩)
 unfold aC
 rw[h1]
 simp only[h2,Nat.zero_add,List.take_length]
theorem IM (l:List Deed):cb l ((aC l).map tt):=fun _=>by
 rw[qW]
 refine⟨kf (fun k s=>s=l.take k) _ _ _ (by simp) (fun j s _ hj hs=>⟨?_,fun s' h=>?_⟩),fun s h=>?_⟩
 ·rw[Nat.zero_add]at hj
  unfold cB
  rw[hs,List.length_take,Nat.min_eq_left (by omega),List.getElem?_map,List.getElem?_eq_getElem hj,eD l _ hj]
  rfl
 ·rw[Nat.zero_add]at hj
  unfold bB at h
  cases h
  rw[bH l default hj,hs]
 ·have:=qW l
  unfold aC at this
  rw[h]at this
  simp only at this
  rw[this,List.length_map]
end Go.Sx
end
section
namespace Go.Sx
open Go.Proofs
theorem E3 {n d:Int}(hd:1≤d)(hd2:d≤1073741824)(h1: -1152921504606846976≤n)(h2:n≤1152921504606846976):k9 n d=n / d:=by
 unfold k9
 have e1:Int.tmod (Int.tmod n d+d) d=n % d:=by
  have a1: -d<Int.tmod n d:=Int.lt_tmod_of_pos n (by omega)
  rw[Int.tmod_eq_emod_of_nonneg (by omega),Int.add_emod_right]
  rw[Int.tmod_eq_emod]
  split
  ·show(n % d - 0) % d=n % d
   rw[Int.sub_zero,Int.emod_emod]
  ·have:n % d - (d.natAbs:Int)=n % d+d*(-1):=by omega
   rw[this,Int.add_mul_emod_self_left,Int.emod_emod]
 have a1: -d<Int.tmod n d:=Int.lt_tmod_of_pos n (by omega)
 have a2:Int.tmod n d<d:=Int.tmod_lt_of_pos n (by omega)
 rw[aT (by omega: -9223372036854775808≤Int.tmod n d+d) (by omega),e1]
 have b1:=Int.emod_nonneg n (by omega:d≠0)
 have b2:=Int.emod_lt_of_pos n (by omega:0<d)
 rw[aT (by omega: -9223372036854775808≤n - n % d) (by omega)]
 have e2:n - n % d=d*(n / d):=by have:=Int.mul_ediv_add_emod n d;omega
 rw[e2,Int.mul_tdiv_cancel_left _ (by omega)]
 have c1:n / d≤1152921504606846976:=by
  have:=Int.ediv_le_ediv (by omega:0<d) h2
  have:=Int.ediv_le_self (b:=d) (by omega:(0:Int)≤1152921504606846976)
  omega
 have c2: -1152921504606846976≤n / d:=by
  rw[Int.le_ediv_iff_mul_le (by omega)]
  have:=Int.mul_le_mul_of_nonneg_left (by omega:1≤d) (by omega:(0:Int)≤1152921504606846976)
  omega
 exact aT (by omega) (by omega)
def gQ {κ υ:Type}(l:List (κ×υ)):List κ:=l.map fun p=>p.1
theorem zh {κ υ:Type}[DecidableEq κ]:∀ {l:List (κ×υ)} {x:κ},x ∉ gQ l→fc l x=none
 | [],_,_=>rfl
 |(a,b)::r,x,h=>by
  unfold fc
  rw[if_neg (fun e=>h (by simp[gQ,e]))]
  exact zh fun hm=>h (by simp only[gQ,List.map_cons,List.mem_cons]at hm ⊢;exact .inr hm)
theorem xB {κ υ:Type}[DecidableEq κ]:∀ {l:List (κ×υ)},(gQ l).Nodup→∀ {x:κ} {y:υ},fc l x=some y↔(x,y)∈l
 | [],_,x,y=>by simp[fc]
 |(a,b)::r,h,x,y=>by
  have h':=List.nodup_cons.1 h
  unfold fc
  by_cases e:x=a
  ·subst e
   rw[if_pos rfl]
   simp only[Option.some.injEq,List.mem_cons,Prod.mk.injEq,true_and]
   refine⟨fun h=>.inl h.symm,fun h=>?_⟩
   rcases h with h|h
   ·exact h.symm
   ·exact absurd (List.mem_map_of_mem (f:=fun p:κ×υ=>p.1) h) h'.1
  ·rw[if_neg e,xB h'.2]
   simp only[List.mem_cons,Prod.mk.injEq,e,false_and,false_or]
theorem oS {κ υ:Type}[DecidableEq κ](x:κ)(y:υ):∀ (l:List (κ×υ)),(gQ l).Nodup→(gQ (sw l x y)).Nodup∧∀ z,z∈gQ (sw l x y)→z=x∨z∈gQ l
 | [],_=>by simp[sw,gQ]
 |(a,b)::r,h=>by
  have h':=List.nodup_cons.1 h
  unfold sw
  by_cases e:x=a
  ·subst e
   rw[if_pos rfl]
   exact⟨h,fun z hz=>.inr hz⟩
  ·rw[if_neg e]
   obtain⟨g1,g2⟩:=oS x y r h'.2
   refine⟨List.nodup_cons.2 ⟨fun hm=>?_,g1⟩,fun z hz=>?_⟩
   ·rcases g2 _ hm with h3|h3
    ·exact e h3.symm
    ·exact h'.1 h3
   ·rcases List.mem_cons.1 hz with rfl|hz
    ·exact .inr List.mem_cons_self
    ·rcases g2 z hz with h3|h3
     ·exact .inl h3
     ·exact .inr (List.mem_cons_of_mem _ h3)
theorem uD {κ υ:Type}[DecidableEq κ](x:κ):∀ (l:List (κ×υ)),(gQ l).Nodup→(gQ (tV l x)).Nodup∧(∀ z,z∈gQ (tV l x)→z∈gQ l)∧∀ z,fc (tV l x) z=if z=x then none else fc l z
 | [],_=>by simp[tV,gQ,fc]
 |(a,b)::r,h=>by
  have h':=List.nodup_cons.1 h
  unfold tV
  by_cases e:x=a
  ·subst e
   rw[if_pos rfl]
   refine⟨h'.2,fun z hz=>List.mem_cons_of_mem _ hz,fun z=>?_⟩
   by_cases hz:z=x
   ·subst hz;rw[if_pos rfl];exact zh h'.1
   ·rw[if_neg hz];simp only[fc,if_neg hz]
  ·rw[if_neg e]
   obtain⟨g1,g2,g3⟩:=uD x r h'.2
   refine⟨List.nodup_cons.2 ⟨fun hm=>h'.1 (g2 _ hm),g1⟩,fun z hz=>?_,fun z=>?_⟩
   ·rcases List.mem_cons.1 hz with rfl|hz
    ·exact List.mem_cons_self
    ·exact List.mem_cons_of_mem _ (g2 z hz)
   ·simp only[fc,g3]
    by_cases hz:z=a
    ·subst hz;rw[if_pos rfl,if_neg (fun e2=>e e2.symm),if_pos rfl]
    ·simp only[if_neg hz]
def tot:Nat→(Int→Int)→Int
 |0,_=>0
 |n+1,g=>tot n g+g (n:Int)
def fI (g:Int→Int)(f v:Int):Int→Int:=fun x=>if x=f then v else g x
theorem Ce {g h:Int→Int}:∀ {n:Nat},(∀ f:Int,0≤f→f< (n:Int)→g f=h f)→tot n g=tot n h
 |0,_=>rfl
 |n+1,e=>by unfold tot;rw[Ce (n:=n) fun f h1 h2=>e f h1 (by omega),e n (by omega) (by omega)]
theorem pi (g:Int→Int)(f v:Int):∀ (n:Nat),0≤f→f< (n:Int)→tot n (fI g f v)=tot n g - g f+v
 |0,h0,h1=>by omega
 |n+1,h0,h1=>by
  unfold tot
  by_cases h:f=(n:Int)
  ·subst h
   rw[Ce (g:=fI g n v) (h:=g) fun x _ hx=>by unfold fI;rw[if_neg (by omega)]]
   unfold fI;rw[if_pos rfl];omega
  ·rw[pi g f v n h0 (by omega)]
   unfold fI;rw[if_neg (fun e=>h e.symm)];omega
theorem DW {g:Int→Int}(h:∀ f,0≤g f):∀ n,0≤tot n g
 |0=>Int.le_refl _
 |n+1=>by have:=DW h n;have:=h n;unfold tot;omega
theorem xC {g:Int→Int}(h:∀ f,0≤g f):∀ (n:Nat) (f:Int),0≤f→f< (n:Int)→g f≤tot n g
 |0,f,h0,h1=>by omega
 |n+1,f,h0,h1=>by
  unfold tot
  have h2:=DW h n
  by_cases e:f=(n:Int)
  ·subst e;omega
  ·have:=xC h n f h0 (by omega);have:=h n;omega
structure Good (F:Nat)(L:Int)(g:Int→Int):Prop where
 nn:∀ f,0≤g f
 sup:∀ f,g f≠0→0≤f∧f< (F:Int)
 tot:tot F g≤L
theorem Good.le {F:Nat}{L:Int}{g:Int→Int}(h:Good F L g)(hL:0≤L)(f:Int):g f≤L:=by
 by_cases e:g f=0
 ·omega
 ·obtain⟨a,b⟩:=h.sup f e
  exact Int.le_trans (xC h.nn F f a b) h.tot
theorem Good.put {F:Nat}{L M:Int}{g:Int→Int}(h:Good F L g){f v:Int}(h0:0≤f)(h1:f< (F:Int))(hv:0≤v)(hM:Go.Sx.tot F g - g f+v≤M):Good F M (fI g f v) where
 nn:=fun x=>by unfold fI;split;exact hv;exact h.nn x
 sup:=fun x hx=>by
  unfold fI at hx
  split at hx
  ·rename_i e;rw[e];exact⟨h0,h1⟩
  ·exact h.sup x hx
 tot:=by rw[pi g f v F h0 h1];exact hM
def loP (p:Part)(n:Int):Int:=p.share.n*n / p.share.d
theorem IN {a:Ratio}(h:RatioOk a){n:Int}(h0:0≤n)(h1:n≤1073741824):(ei a n).1=a.n*n / a.d∧(ei a n).2.1= -(-(a.n*n) / a.d)∧(ei a n).2.2=0:=by
 have hb: -1152921504606846976≤a.n*n∧a.n*n≤1152921504606846976:=by
  have:(a.n*n).natAbs≤1073741824*1073741824:=by rw[Int.natAbs_mul];exact Nat.mul_le_mul (by have:=h.n0;have:=h.n;omega) (by omega)
  omega
 have hd:=h.d1;have hd2:=h.d;have hn0:=h.n0;have hn1:=h.n
 unfold ei
 rw[(dZ a).2 h]
 have e:(decide (n< -1073741824) ||decide (n > 1073741824))=false:=by simp;omega
 simp only[bne_self_eq_false,cond_false,e]
 have ee: -a.n*n= -(a.n*n):=Int.neg_mul _ _
 rw[aT (n:=a.n*n) (by omega) (by omega),aT (n:=0 - a.n) (by omega) (by omega),show 0 - a.n= -a.n by omega,ee,aT (n:= -(a.n*n)) (by omega) (by omega),E3 hd hd2 (by omega) (by omega),E3 hd hd2 (by omega) (by omega)]
 refine⟨rfl,?_,trivial⟩
 have c1: -(a.n*n) / a.d≤1152921504606846976:=by
  have:=Int.ediv_le_ediv (by omega:0<a.d) (by omega: -(a.n*n)≤1152921504606846976)
  have:=Int.ediv_le_self (b:=a.d) (by omega:(0:Int)≤1152921504606846976)
  omega
 have c2: -1152921504606846976≤ -(a.n*n) / a.d:=by
  rw[Int.le_ediv_iff_mul_le (by omega)]
  have:=Int.mul_le_mul_of_nonneg_left (by omega:1≤a.d) (by omega:(0:Int)≤1152921504606846976)
  omega
 rw[aT (by omega) (by omega)];omega
theorem Cf {p:Part}(h:RatioOk p.share)(hp:0<p.share.n){n:Int}(h0:0≤n):0≤loP p n:=by
 unfold loP
 exact Int.ediv_nonneg (Int.mul_nonneg (by omega) h0) (by have:=h.d1;omega)
theorem IP {x d:Rat}(hd:0<d)(h:0≤x*d):0≤x:=by
 rcases Classical.em (0≤x)with h1|h1
 ·exact h1
 ·have h2:0< -x:=by grind
  have h3:=Rat.mul_pos h2 hd
  grind
theorem Ow {p:Part}(h:RatioOk p.share)(n:Int):((loP p n:Int):Rat)≤rv p.share*(n:Rat)∧rv p.share*(n:Rat)≤((loP p n:Int):Rat)+1:=by
 have hd:=h.d1
 have d0:(0:Rat) < (p.share.d:Rat):=by exact_mod_cast (by omega:(0:Int) <p.share.d)
 have dn:(p.share.d:Rat)≠0:=mm (by omega)
 have e1:rv p.share*(p.share.d:Rat)=(p.share.n:Rat):=by unfold rv;exact Rat.div_mul_cancel dn
 have q:=Int.mul_ediv_add_emod (p.share.n*n) p.share.d
 have q1:=Int.emod_nonneg (p.share.n*n) (by omega:p.share.d≠0)
 have q2:=Int.emod_lt_of_pos (p.share.n*n) (by omega:0<p.share.d)
 have r1:p.share.d*loP p n≤p.share.n*n:=by unfold loP;omega
 have r2:p.share.n*n≤p.share.d*loP p n+p.share.d:=by unfold loP;omega
 have r1':(p.share.d:Rat)*((loP p n:Int):Rat)≤(p.share.n:Rat)*(n:Rat):=by exact_mod_cast r1
 have r2':(p.share.n:Rat)*(n:Rat)≤(p.share.d:Rat)*((loP p n:Int):Rat)+(p.share.d:Rat):=by exact_mod_cast r2
 rw[←e1]at r1' r2'
 generalize ((loP p n:Int):Rat)=lo at *
 generalize (n:Rat)=m at *
 generalize rv p.share=v at *
 generalize (p.share.d:Rat)=d at *
 constructor
 ·have:=IP (x:=v*m - lo) d0 (by grind)
  grind
 ·have:=IP (x:=lo+1 - v*m) d0 (by grind)
  grind
def cd (l:List Part)(n:Int):Int:=(l.map fun p=>loP p n).sum
theorem Ox {l:List Part}(h:∀ p∈l,RatioOk p.share)(n:Int):((cd l n:Int):Rat)≤tw l*(n:Rat)∧tw l*(n:Rat)≤((cd l n+(l.length:Int):Int):Rat):=by
 induction l with
 |nil=>simp[cd,tw,Rat.zero_mul]
 |cons p r ih=>
  obtain⟨i1,i2⟩:=ih fun q hq=>h q (List.mem_cons_of_mem _ hq)
  obtain⟨j1,j2⟩:=Ow (h p List.mem_cons_self) n
  have e:cd (p::r) n=loP p n+cd r n:=by simp[cd]
  have e1:((cd (p::r) n:Int):Rat)=((loP p n:Int):Rat)+((cd r n:Int):Rat):=by rw[e];exact_mod_cast rfl
  have e2:((cd (p::r) n+((p::r).length:Int):Int):Rat)=(((loP p n:Int):Rat)+1)+((cd r n+(r.length:Int):Int):Rat):=by
   have:cd (p::r) n+((p::r).length:Int)=(loP p n+1)+(cd r n+(r.length:Int)):=by rw[e];simp only[List.length_cons];omega
   rw[this];exact_mod_cast rfl
  rw[e1,e2]
  simp only[tw]
  generalize ((loP p n:Int):Rat)=a at *
  generalize ((cd r n:Int):Rat)=b at *
  generalize ((cd r n+(r.length:Int):Int):Rat)=c at *
  generalize (n:Rat)=m at *
  generalize rv p.share=v at *
  generalize tw r=w at *
  constructor <;>grind
theorem AA {d:District}{l:List Part}(h:PartsOk d l)(n:Int):cd l n≤n∧n≤cd l n+(l.length:Int):=by
 obtain⟨h1,h2⟩:=Ox (fun p hp=>(h.part p hp).share) n
 rw[h.sum,Rat.one_mul]at h1 h2
 exact⟨by exact_mod_cast h1,by exact_mod_cast h2⟩
end Go.Sx
end
section
namespace Go.Sx
open Go.Proofs
theorem tmod_neg {p q:Nat}(hq:0<q):Int.tmod (-(p:Int)) (-(q:Int))= -((p % q:Nat):Int):=by
 rw[Int.tmod_neg,Int.neg_tmod,Int.tmod_eq_emod_of_nonneg (by omega)];rfl
theorem xD (a1:Int):∀ (n i:Nat) (p q:Nat),q<n→∃ a b,ak (eU a1) n i (-(p:Int),-(q:Int))=.inl (a,b)∧((b= -1∧Nat.gcd p q=1)∨(b=0∧a= -((Nat.gcd p q:Nat):Int)))
 |0,_,_,_,h=>by omega
 |n+1,i,p,q,h=>by
  simp only[ak,eU]
  by_cases h1:1<q
  ·rw[decide_eq_true (by omega)]
   simp only[cond_true]
   rw[tmod_neg (by omega)]
   have hlt:p % q<q:=Nat.mod_lt _ (by omega)
   obtain⟨a,b,e,h2⟩:=xD a1 n (i+1) q (p % q) (by omega)
   have eg:Nat.gcd q (p % q)=Nat.gcd p q:=by rw[Nat.gcd_comm p q,Nat.gcd_rec q p,Nat.gcd_comm]
   rw[eg]at h2
   exact⟨a,b,e,h2⟩
  ·rw[decide_eq_false (by omega)]
   simp only[cond_false]
   refine⟨_,_,rfl,?_⟩
   by_cases h0:q=0
   ·subst h0;exact .inr ⟨by simp,by simp⟩
   ·have:q=1:=by omega
    subst this;exact .inl ⟨by simp,by simp⟩
theorem Gm {n d:Int}(h0: -4611686018427387904≤n)(h1:n≤4611686018427387904)(h2: -4611686018427387904≤d)(h3:d≤4611686018427387904):ko n d∧jL n d=mkR n d:=by
 unfold ko jL
 by_cases hd:d=0
 ·subst hd
  refine⟨(fun h=>by cases h),?_⟩
  unfold mkR;rfl
 ·have e:(d==0)=false:=by simpa using hd
  rw[e]
  simp only[cond_false]
  have ex:(bif(decide (n > 0))then(IntKind.i64.wrap (0 - n))else n)= -((n.natAbs:Nat):Int):=by
   by_cases h:n > 0
   ·rw[decide_eq_true h,cond_true,aT (by omega) (by omega)];omega
   ·rw[decide_eq_false h,cond_false];omega
  have ey:(bif(decide (d > 0))then(IntKind.i64.wrap (0 - d))else d)= -((d.natAbs:Nat):Int):=by
   by_cases h:d > 0
   ·rw[decide_eq_true h,cond_true,aT (by omega) (by omega)];omega
   ·rw[decide_eq_false h,cond_false];omega
  rw[ex,ey]
  obtain⟨a,b,er,hr⟩:=xD d (Int.natAbs d+2) 0 n.natAbs d.natAbs (by omega)
  rw[er]
  have g0:0<Nat.gcd n.natAbs d.natAbs:=Nat.gcd_pos_of_pos_right _ (by omega)
  have okp:okI (eU d) (jC d) (Int.natAbs d+2) 0 (-((n.natAbs:Nat):Int),-((d.natAbs:Nat):Int)):=iL _ _ _ fun j s _ _ h=>by rw[decide_eq_true_eq]at h;omega
  simp only
  have l1:n.natAbs / Nat.gcd n.natAbs d.natAbs≤n.natAbs:=Nat.div_le_self _ _
  have l2:d.natAbs / Nat.gcd n.natAbs d.natAbs≤d.natAbs:=Nat.div_le_self _ _
  rcases hr with⟨rfl,hg⟩ | ⟨rfl,rfl⟩
  ·
   have t:∀ m:Nat,Int.tdiv (-(m:Int)) (-1)=(m:Int):=fun m=>by rw[Int.tdiv_neg,Int.neg_tdiv,Int.tdiv_one];omega
   refine⟨fun _=>⟨okp,(fun z h=>by cases h),fun x hx=>by cases hx;exact⟨fun _ _=>by decide,(fun h=>by cases h)⟩⟩,?_⟩
   unfold mkR
   rw[if_neg hd,hg,Nat.div_one,Nat.div_one,t,t]
   simp only[BEq.rfl,cond_true]
   by_cases hb:1073741824<n.natAbs∨1073741824<d.natAbs
   ·rw[if_pos hb]
    have:((decide (-((n.natAbs:Nat):Int) < (-1073741824))) ||(decide (-((d.natAbs:Nat):Int) < (-1073741824))))=true:=by
     rw[Bool.or_eq_true,decide_eq_true_eq,decide_eq_true_eq];omega
    rw[this];rfl
   ·rw[if_neg hb]
    have e1:((decide (-((n.natAbs:Nat):Int) < (-1073741824))) ||(decide (-((d.natAbs:Nat):Int) < (-1073741824))))=false:=by
     rw[Bool.or_eq_false_iff,decide_eq_false_iff_not,decide_eq_false_iff_not];omega
    rw[e1,aT (n:=((n.natAbs:Nat):Int)) (by omega) (by omega),aT (n:=((d.natAbs:Nat):Int)) (by omega) (by omega),aT (n:=0 - ((n.natAbs:Nat):Int)) (by omega) (by omega)]
    have e2:((decide (((n.natAbs:Nat):Int) > 1073741824)) ||(decide (((d.natAbs:Nat):Int) > 1073741824)))=false:=by
     rw[Bool.or_eq_false_iff,decide_eq_false_iff_not,decide_eq_false_iff_not];omega
    rw[e2]
    simp only[cond_false]
    cases(decide (n<0)) !=(decide (d<0)) <;>simp
  ·have t:∀ m:Nat,Int.tdiv (-(m:Int)) (-((Nat.gcd n.natAbs d.natAbs:Nat):Int))=((m / Nat.gcd n.natAbs d.natAbs:Nat):Int):=fun m=>by rw[Int.tdiv_neg,Int.neg_tdiv,Int.neg_neg,Int.tdiv_eq_ediv_of_nonneg (by omega)];rfl
   refine⟨fun _=>⟨okp,(fun z h=>by cases h),fun x hx=>by cases hx;exact⟨(fun h=>by cases h),fun _ _=>by simp only;omega⟩⟩,?_⟩
   unfold mkR
   rw[if_neg hd,t,t]
   have b0:((0:Int) == -1)=false:=by decide
   rw[b0]
   simp only[cond_false]
   generalize hx:n.natAbs / Nat.gcd n.natAbs d.natAbs=x at *
   generalize hy:d.natAbs / Nat.gcd n.natAbs d.natAbs=y at *
   by_cases hb:1073741824<x∨1073741824<y
   ·rw[if_pos hb]
    have e1:((decide (IntKind.i64.wrap (x:Int) > 1073741824)) ||(decide (IntKind.i64.wrap (y:Int) > 1073741824)))=true:=by
     rw[aT (by omega) (by omega),aT (by omega) (by omega),Bool.or_eq_true,decide_eq_true_eq,decide_eq_true_eq];omega
    rw[e1]
    cases(-((Nat.gcd n.natAbs d.natAbs:Nat):Int) == -1)&&((decide (-((n.natAbs:Nat):Int) < (-1073741824))) ||(decide (-((d.natAbs:Nat):Int) < (-1073741824)))) <;>rfl
   ·rw[if_neg hb]
    have e1:((-((Nat.gcd n.natAbs d.natAbs:Nat):Int) == -1)&&((decide (-((n.natAbs:Nat):Int) < (-1073741824))) ||(decide (-((d.natAbs:Nat):Int) < (-1073741824)))))=false:=by
     by_cases hg:Nat.gcd n.natAbs d.natAbs=1
     ·rw[hg,Nat.div_one]at hx hy
      rw[Bool.and_eq_false_iff]
      right
      rw[Bool.or_eq_false_iff,decide_eq_false_iff_not,decide_eq_false_iff_not];omega
     ·rw[Bool.and_eq_false_iff]
      left
      simp only[beq_eq_false_iff_ne];omega
    have e2:((decide (IntKind.i64.wrap (x:Int) > 1073741824)) ||(decide (IntKind.i64.wrap (y:Int) > 1073741824)))=false:=by
     rw[aT (by omega) (by omega),aT (by omega) (by omega),Bool.or_eq_false_iff,decide_eq_false_iff_not,decide_eq_false_iff_not];omega
    rw[e1,e2,aT (n:=(x:Int)) (by omega) (by omega),aT (n:=(y:Int)) (by omega) (by omega),aT (n:=0 - (x:Int)) (by omega) (by omega)]
    simp only[cond_false]
    cases(decide (n<0)) !=(decide (d<0)) <;>simp
theorem Cg (a b:Ratio):l8 a b∧jU a b=dL a b:=by
 rw[DL]
 unfold l8 jU
 have hB:gD a b=((aF a==0)&&(aF b==0)):=by unfold gD;rw[oM,oM]
 rw[hB]
 by_cases h:aF a=0∧aF b=0
 ·have ha:=(dZ a).1 h.1;have hb:=(dZ b).1 h.2
  have m1:=vA ha.n0 ha.n hb.d1 hb.d
  have m2:=vA hb.n0 hb.n ha.d1 ha.d
  have h1:=ha.d1;have h2:=ha.d
  have m3:=vA (a:=a.d) (by omega) h2 hb.d1 hb.d
  rw[if_pos h,h.1,h.2,aT (n:=a.n*b.d) (by omega) (by omega),aT (n:=b.n*a.d) (by omega) (by omega),aT (n:=a.d*b.d) (by omega) (by omega),aT (n:=a.n*b.d+b.n*a.d) (by omega) (by omega)]
  obtain⟨p,e⟩:=Gm (n:=a.n*b.d+b.n*a.d) (d:=a.d*b.d) (by omega) (by omega) (by omega) (by omega)
  rw[e]
  exact⟨⟨DK a b,fun _=>p⟩,rfl⟩
 ·have:((aF a==0)&&(aF b==0))=false:=by
   cases h1:(aF a==0) <;>cases h2:(aF b==0) <;>simp_all
  rw[if_neg h,this]
  exact⟨⟨DK a b,(fun h=>by cases h)⟩,rfl⟩
theorem IQ {n d:Int}(hd:1≤d)(hd2:d≤1073741824)(h1: -1152921504606846976≤n)(h2:n≤1152921504606846976):jV n d=n / d:=by
 unfold jV
 have q:=Int.mul_ediv_add_emod n d
 have q1:=Int.emod_nonneg n (by omega:d≠0)
 have q2:=Int.emod_lt_of_pos n (by omega:0<d)
 have c1:n / d≤1152921504606846976:=by
  have:=Int.ediv_le_ediv (by omega:0<d) h2
  have:=Int.ediv_le_self (b:=d) (by omega:(0:Int)≤1152921504606846976)
  omega
 have c2: -1152921504606846976≤n / d:=by
  rw[Int.le_ediv_iff_mul_le (by omega)]
  have:=Int.mul_le_mul_of_nonneg_left (by omega:1≤d) (by omega:(0:Int)≤1152921504606846976)
  omega
 have hs:d.sign=1:=Int.sign_eq_one_of_pos (by omega)
 have ht:=Int.tdiv_eq_ediv (a:=n) (b:=d)
 have hm:=Int.tmod_eq_emod (a:=n) (b:=d)
 by_cases hn:0≤n∨d ∣ n
 ·rw[if_pos hn]at ht hm
  rw[ht,hm,decide_eq_false (by omega),cond_false,aT (by omega) (by omega)];omega
 ·rw[if_neg hn]at ht hm
  have hne:n % d≠0:=fun e=>hn (.inr (Int.dvd_of_emod_eq_zero e))
  rw[ht,hm,hs,decide_eq_true (by omega),cond_true,aT (n:=n / d+1) (by omega) (by omega),aT (by omega) (by omega)];omega
theorem DX {a:Ratio}(h:RatioOk a){n:Int}(h0:0≤n)(h1:n≤1073741824):jm a n∧(dK a n).1=a.n*n / a.d:=by
 have hb: -1152921504606846976≤a.n*n∧a.n*n≤1152921504606846976:=by
  have:(a.n*n).natAbs≤1073741824*1073741824:=by rw[Int.natAbs_mul];exact Nat.mul_le_mul (by have:=h.n0;have:=h.n;omega) (by omega)
  omega
 have hd:=h.d1;have hd2:=h.d
 refine⟨⟨qT a,fun _ _=>⟨⟨by omega,by omega⟩,⟨by omega,by omega⟩⟩⟩,?_⟩
 unfold dK
 rw[(la a).2 h]
 have e:(decide (n< -1073741824) ||decide (n > 1073741824))=false:=by simp;omega
 simp only[Bool.not_true,cond_false,e]
 rw[aT (n:=a.n*n) (by omega) (by omega),IQ hd hd2 (by omega) (by omega)]
end Go.Sx
end
section
namespace Go.Sx
open Go.Proofs
set_option maxRecDepth 100000
set_option linter.unusedSimpArgs false
theorem IR {p:Prop}(h:p:=by(first|done|(repeat' (first|with_reducible refine And.intro ?_ ?_|((with_reducible show _≠_);first|assumption|omega|(simp_all [aX,bu];done) |grind) |with_reducible intro _)) <;>(first|done|with_reducible exact Empty.elim ‹Empty› |with_reducible assumption|rfl|omega|assumption|decide|exact fk [1] |exact fk [0] |exact czl|(simp only[*,cond_true,cond_false,Bool.not_true,Bool.not_false,go_sem,Nat.reduceBEq,Nat.reduceLeDiff,Nat.reduceLT,decide_true,Nat.reduceAdd,Nat.reduceSub,Nat.reduceMul,Int.reduceLE,Int.reduceLT,Int.reduceToNat,Int.reduceNeg,reduceCtorEq];(repeat' (first|with_reducible refine And.intro ?_ ?_|((with_reducible show _≠_);first|assumption|omega|(simp_all [aX,bu];done) |grind) |with_reducible intro _)) <;>(first|done|assumption|rfl|omega|decide|exact fk [1] |exact fk [0] |(simp_all [aX,bu];done))) |(simp_all [okI,aX,bu];done) |(simp_all [aX,bu];(first|done|exact fk2 [1] |exact fk2 [0])) |exact fk2 [1] |exact fk2 [0]))):p:=h
theorem Ch {p:Prop}(h:p:=by(first|done|(repeat' (first|with_reducible refine And.intro ?_ ?_|((with_reducible show _≠_);first|assumption|omega|(simp_all [aX,bu];done) |grind) |with_reducible intro _)) <;>(first|done|with_reducible exact Empty.elim ‹Empty› |with_reducible assumption|rfl|omega|assumption|decide|exact fk [0,4] |exact fk [0,1] |exact czl|(simp only[*,cond_true,cond_false,Bool.not_true,Bool.not_false,go_sem,Nat.reduceBEq,Nat.reduceLeDiff,Nat.reduceLT,decide_true,Nat.reduceAdd,Nat.reduceSub,Nat.reduceMul,Int.reduceLE,Int.reduceLT,Int.reduceToNat,Int.reduceNeg,reduceCtorEq];(repeat' (first|with_reducible refine And.intro ?_ ?_|((with_reducible show _≠_);first|assumption|omega|(simp_all [aX,bu];done) |grind) |with_reducible intro _)) <;>(first|done|assumption|rfl|omega|decide|exact fk [0,4] |exact fk [0,1] |(simp_all [aX,bu];done))) |(simp_all [okI,aX,bu];done) |(simp_all [aX,bu];(first|done|exact fk2 [0,4] |exact fk2 [0,1])) |exact fk2 [0,4] |exact fk2 [0,1]))):p:=h
theorem IS {p:Prop}(h:p:=by simp only[go_sem,Nat.reduceBEq,Nat.reduceLeDiff,Nat.reduceLT,decide_true,Nat.reduceAdd,Nat.reduceSub,Nat.reduceMul,Int.reduceLE,Int.reduceLT,Int.reduceToNat,Int.reduceNeg,reduceCtorEq];all_goals exact IR):p:=h
theorem IT {p:Prop}(h:p:=by simp only[go_sem,Nat.reduceBEq,Nat.reduceLeDiff,Nat.reduceLT,decide_true,Nat.reduceAdd,Nat.reduceSub,Nat.reduceMul,Int.reduceLE,Int.reduceLT,Int.reduceToNat,Int.reduceNeg,reduceCtorEq,hc,hw];all_goals exact Ch):p:=h
theorem IU {p:Prop}(h:p:=by simp only[go_sem,Nat.reduceBEq,Nat.reduceLeDiff,Nat.reduceLT,decide_true,Nat.reduceAdd,Nat.reduceSub,Nat.reduceMul,Int.reduceLE,Int.reduceLT,Int.reduceToNat,Int.reduceNeg,reduceCtorEq,hc];all_goals exact Ch):p:=h
def eI (x:Deed)(right:Bool)(fr:Bool)(to:Bool)(parts:Bool)(of_:Bool):Bool:=(((((right||(x.right==0))&&(fr||(x.since==0)))&&(to||(x.to==0)))&&(parts||((x.parts.length:Int) ==0)))&&(of_||(x.of_==0)))
@[go_sem] def tC:List SV→Option Con:=(pD .deed fun x=>(pB fun right=>(pB fun fr=>(pB fun to=>(pB fun parts=>(pB fun of_=>(pE (.det True (.v (.bool (eI x right fr to parts of_)))))))))))
theorem yi:FnOk Tryz.prog 69 tC:=by
 have hG:ConsOk Tryz.prog (mkG [] []):=ay cg0 cg0
 refine aU [.o] mixed am hG (fn:=Tryz.f69) (c:=ae Tryz.f69) (by kernel_rfl) (by kernel_rfl) (by kernel_rfl) (by kernel_rfl) (bb fun x=>(ul fun right=>(ul fun fr=>(ul fun to=>(ul fun parts=>(ul fun of_=>(aI (fun hp=>?_))))))))
 dsimp only[aG]at hp
 refine⟨Nat.le_of_ble_eq_true rfl,L0,ah _,?_⟩
 ·unfold ae Tryz.f69
  try unfold eI
  simp only[go_sem,Nat.reduceBEq,Nat.reduceLeDiff,Nat.reduceLT,decide_true,Nat.reduceAdd,Nat.reduceSub,Nat.reduceMul,Int.reduceLE,Int.reduceLT,Int.reduceToNat,Int.reduceNeg,reduceCtorEq]
  all_goals exact cl
def fF (d:District)(x:Deed):Bool:=(((((decide (x.right≥0))&&(decide (x.right< (d.rights.length:Int))))&&((d.rights.getD (Int.toNat x.right) (default:Right)).kind==1))&&(decide (x.since≥0)))&&(decide (x.since< (d.farms.length:Int))))
def fX (d:District)(x:Deed):Prop:=(((decide (x.right≥0))&&(decide (x.right< (d.rights.length:Int))))=true→(0≤x.right∧x.right< (d.rights.length:Int)))
@[go_sem] def qA:List SV→Option Con:=(pD .district fun d=>(pD .deed fun x=>(pE (.det (fX d x) (.v (.bool (fF d x)))))))
theorem vD:FnOk Tryz.prog 70 qA:=by
 have hG:ConsOk Tryz.prog (mkG [] []):=ay cg0 cg0
 refine aU [.o] mixed am hG (fn:=Tryz.f70) (c:=ae Tryz.f70) (by kernel_rfl) (by kernel_rfl) (by kernel_rfl) (by kernel_rfl) (bb fun d=>(bb fun x=>(aI (fun hp=>?_))))
 dsimp only[aG]at hp
 unfold fX at hp
 refine⟨Nat.le_of_ble_eq_true rfl,L0,ah _,?_⟩
 ·unfold ae Tryz.f70
  try unfold fF
  simp only[go_sem,Nat.reduceBEq,Nat.reduceLeDiff,Nat.reduceLT,decide_true,Nat.reduceAdd,Nat.reduceSub,Nat.reduceMul,Int.reduceLE,Int.reduceLT,Int.reduceToNat,Int.reduceNeg,reduceCtorEq]
  all_goals exact cl
@[go_sem] def dW (a1:List Part)(k_0:Nat)(k_1:Nat)(s_1:Unit):Unit⊕Unit:=(bif((a1.getD k_1 (default:Part)).farm==(a1.getD k_0 (default:Part)).farm)then .inl ()else .inr ())
def ld (a1:List Part)(k_0:Nat)(k_1:Nat)(s_1:Unit):Prop:=(0≤(k_1:Int)∧(k_1:Int) < (a1.length:Int))
@[go_sem] def iB (a0:District)(a1:List Part)(k_0:Nat)(s_0:Int×Int):Unit⊕(Int×Int):=(bif((((decide ((a1.getD k_0 (default:Part)).farm<0)) ||(decide ((a1.getD k_0 (default:Part)).farm≥(a0.farms.length:Int)))) ||(!(cJ ((a1.getD k_0 (default:Part)).share)))) ||(decide ((a1.getD k_0 (default:Part)).share.n≤0)))then .inl ()else(match ak (dW a1 k_0) (Int.toNat (k_0:Int)) 0 ()with| .inl x_1_0=>.inl () | .inr s_1=>(bif((jU ({ n:=s_0.1,d:=s_0.2}:Ratio) ((a1.getD k_0 (default:Part)).share)).2 !=0)then .inl ()else .inr (((jU ({ n:=s_0.1,d:=s_0.2}:Ratio) ((a1.getD k_0 (default:Part)).share)).1).n,((jU ({ n:=s_0.1,d:=s_0.2}:Ratio) ((a1.getD k_0 (default:Part)).share)).1).d))))
def lg (a0:District)(a1:List Part)(k_0:Nat)(s_0:Int×Int):Prop:=(a1.length≤bv→((((decide ((a1.getD k_0 (default:Part)).farm<0)) ||(decide ((a1.getD k_0 (default:Part)).farm≥(a0.farms.length:Int))))=false→(eT ((a1.getD k_0 (default:Part)).share)))∧(((((decide ((a1.getD k_0 (default:Part)).farm<0)) ||(decide ((a1.getD k_0 (default:Part)).farm≥(a0.farms.length:Int)))) ||(!(cJ ((a1.getD k_0 (default:Part)).share)))) ||(decide ((a1.getD k_0 (default:Part)).share.n≤0)))=false→(((k_0:Int) <9223372036854775808)∧okI (dW a1 k_0) (ld a1 k_0) (Int.toNat (k_0:Int)) 0 ()∧(∀ s_1,ak (dW a1 k_0) (Int.toNat (k_0:Int)) 0 ()=.inr s_1→(l8 ({ n:=s_0.1,d:=s_0.2}:Ratio) ((a1.getD k_0 (default:Part)).share)))))))
def mq (a0:District)(a1:List Part):Bool:=(bif((decide ((a1.length:Int) <1)) ||(decide ((a1.length:Int) > 16)))then false else(match ak (iB a0 a1) a1.length 0 (0,1)with| .inl x_0_0=>false| .inr s_0=>(s_0.1==s_0.2)))
def lM (a0:District)(a1:List Part):Prop:=(a1.length≤bv→(((decide ((a1.length:Int) <1)) ||(decide ((a1.length:Int) > 16)))=false→okI (iB a0 a1) (lg a0 a1) a1.length 0 (0,1)))
@[go_sem] def rQ:List SV→Option Con:=(pD .district fun a0=>(pR .part fun a1=>(pE (.det (lM a0 a1) (.v (.bool (mq a0 a1)))))))
theorem xE:FnOk Tryz.prog 71 rQ:=by
 have hG:ConsOk Tryz.prog (mkG [(96,jl),(97,uX)] []):=ay (cgc km (cgc Ak cg0)) cg0
 refine aU [.o] mixed am hG (fn:=Tryz.f71) (c:=ae Tryz.f71) (by kernel_rfl) (by kernel_rfl) (by kernel_rfl) (by kernel_rfl) (bb fun a0=>(dw fun a1=>(aI (fun hp=>?_))))
 dsimp only[aG]at hp
 unfold lM at hp
 refine⟨Nat.le_of_ble_eq_true rfl,(fun id st=>bif Nat.beq id 0 then some (LCR (ρ:=Unit) (σ:=(Int×Int)) 2 [] [0,1] (fun k_0 s_0=>⟨[(1,.rs .part a1),(2,.ptr 0 0),(5,.ptr 1 0),(6,.v (.int .i64 (k_0:Int)))],[.cells (cellsOf .district a0),.cells [.v (.int .i64 s_0.1),.v (.int .i64 s_0.2)]]⟩) (iB a0 a1) (lg a0 a1) a1.length (0,1) (True) (fun _=>.ret) (fun x_0_0=>⟨[(4,.v (.bool false))],[.dead,.dead]⟩) st)else none),?_,?_⟩
 ·unfold ae Tryz.f71
  simp only[al,true_and,and_true]
  ·refine c_ (a1.length≤bv) mixed am hG (by kernel_rfl) (fun _=>rfl) (a1.length:Int) rfl gM (fun hb0 k_0 s_0 hlt0 hq0 hw hc=>⟨(fun id st=>bif Nat.beq id 2 then some (LCR (ρ:=Unit) (σ:=Unit) 3 [] [0,1,2] (fun k_1 s_1=>⟨[(1,.rs .part a1),(2,.ptr 0 0),(5,.ptr 1 0),(6,.v (.int .i64 (k_0:Int))),(7,.ptr 2 0),(8,.v (.int .i64 (k_1:Int)))],[.cells (cellsOf .district a0),.cells [.v (.int .i64 s_0.1),.v (.int .i64 s_0.2)],.cells (cellsOf .part (a1.getD k_0 (default:Part)))]⟩) (dW a1 k_0) (ld a1 k_0) (Int.toNat (k_0:Int)) () ((k_0:Int) <9223372036854775808) (fun _=>.ret) (fun x_1_0=>⟨[(4,.v (.bool false))],[.dead,.dead,.dead]⟩) st)else none),?_,?_⟩) (fun hb0 s_0 hc=>?_) fun hb0 k_0 s_0=>?_
   ·simp only[al,true_and,and_true]
    ·refine eh mixed am hG (by kernel_rfl) (fun _=>rfl) (k_0:Int) rfl id (fun hb1 k_1 s_1 hlt1 hq1 hw hc=>⟨L0,ah _,?_⟩) (fun hb1 s_1 hc=>?_)
     ·unfold ld at hq1
      try simp only[hw,Int.toNat_natCast]at hq1
      exact BN
     ·exact BO
   ·unfold lg at hq0
    try simp only[hw,Int.toNat_natCast]at hq0
    exact qq
   ·exact qr
   ·simp only[go_sem,Nat.reduceBEq,Nat.reduceLeDiff,Nat.reduceLT,decide_true,Nat.reduceAdd,Nat.reduceSub,Nat.reduceMul,Int.reduceLE,Int.reduceLT,Int.reduceToNat,Int.reduceNeg,reduceCtorEq,hb0]
 ·unfold ae Tryz.f71
  try unfold mq
  simp only[go_sem,Nat.reduceBEq,Nat.reduceLeDiff,Nat.reduceLT,decide_true,Nat.reduceAdd,Nat.reduceSub,Nat.reduceMul,Int.reduceLE,Int.reduceLT,Int.reduceToNat,Int.reduceNeg,reduceCtorEq]
  all_goals exact cl
@[go_sem] def nD (l_:List Deed)(of_:Int)(k_0:Nat)(s_0:Unit):Int⊕Unit:=(bif(((l_.getD k_0 (default:Deed)).no==of_)&&((l_.getD k_0 (default:Deed)).kind !=4))then .inl (k_0:Int)else .inr ())
def eV (l_:List Deed)(of_:Int):Int:=(match ak (nD l_ of_) l_.length 0 ()with| .inl x_0_0=>x_0_0| .inr s_0=>(-1))
@[go_sem] def rR:List SV→Option Con:=(pR .deed fun l_=>(pI fun of_=>(pE (.det True (.v (.int .i64 (eV l_ of_)))))))
theorem xF:FnOk Tryz.prog 72 rR:=by
 have hG:ConsOk Tryz.prog (mkG [] []):=ay cg0 cg0
 refine aU [.o] mixed am hG (fn:=Tryz.f72) (c:=ae Tryz.f72) (by kernel_rfl) (by kernel_rfl) (by kernel_rfl) (by kernel_rfl) (dw fun l_=>(co fun of_=>(aI (fun hp=>?_))))
 dsimp only[aG]at hp
 refine⟨Nat.le_of_ble_eq_true rfl,(fun id st=>bif Nat.beq id 0 then some (LCR (ρ:=Int) (σ:=Unit) 0 [] [] (fun k_0 s_0=>⟨[(0,.rs .deed l_),(1,.v (.int .i64 of_)),(5,.v (.int .i64 (k_0:Int)))],[]⟩) (nD l_ of_) pT l_.length () (True) (fun _=>.ret) (fun x_0_0=>⟨[(4,.v (.int .i64 x_0_0))],[]⟩) st)else none),?_,?_⟩
 ·unfold ae Tryz.f72
  simp only[al,true_and,and_true]
  ·refine c_ (l_.length≤bv) mixed am hG (by kernel_rfl) (fun _=>rfl) (l_.length:Int) rfl gM (fun hb0 k_0 s_0 hlt0 _ hw hc=>⟨L0,ah _,?_⟩) (fun hb0 s_0 hc=>?_) fun hb0 k_0 s_0=>?_
   ·exact jh
   ·exact ji
   ·simp only[go_sem,Nat.reduceBEq,Nat.reduceLeDiff,Nat.reduceLT,decide_true,Nat.reduceAdd,Nat.reduceSub,Nat.reduceMul,Int.reduceLE,Int.reduceLT,Int.reduceToNat,Int.reduceNeg,reduceCtorEq,hb0]
 ·unfold ae Tryz.f72
  try unfold eV
  simp only[go_sem,Nat.reduceBEq,Nat.reduceLeDiff,Nat.reduceLT,decide_true,Nat.reduceAdd,Nat.reduceSub,Nat.reduceMul,Int.reduceLE,Int.reduceLT,Int.reduceToNat,Int.reduceNeg,reduceCtorEq]
  all_goals exact cl
def mr (a0:District)(a1:List Deed)(a2:Deed):Bool:=(bif((((((decide (a2.no<0)) ||(decide (a2.no > 1048576))) ||(decide (a2.at_<0))) ||(decide (a2.at_ > 4096))) ||(decide (a2.known<0))) ||(decide (a2.known > 1048576)))then false else(bif(a2.kind==1)then(((((eI a2 true true true false false)&&(fF a0 a2))&&(decide (a2.to≥0)))&&(decide (a2.to< (a0.farms.length:Int))))&&(a2.to !=a2.since))else(bif(a2.kind==2)then(((eI a2 true true false true false)&&(fF a0 a2))&&(mq a0 a2.parts))else(bif(a2.kind==3)then((eI a2 true true false false false)&&(fF a0 a2))else(bif(a2.kind==4)then(((eI a2 false false false false true)&&(decide ((eV a1 a2.of_)≥0)))&&(decide (a2.known≥(a1.getD (Int.toNat (eV a1 a2.of_)) (default:Deed)).known)))else false)))))
def lN (a0:District)(a1:List Deed)(a2:Deed):Prop:=(((((((decide (a2.no<0)) ||(decide (a2.no > 1048576))) ||(decide (a2.at_<0))) ||(decide (a2.at_ > 4096))) ||(decide (a2.known<0))) ||(decide (a2.known > 1048576)))=false→(((a2.kind==1)=true→((eI a2 true true true false false)=true→(fX a0 a2)))∧((a2.kind==1)=false→(((a2.kind==2)=true→(((eI a2 true true false true false)=true→(fX a0 a2))∧(((eI a2 true true false true false)&&(fF a0 a2))=true→(lM a0 a2.parts))))∧((a2.kind==2)=false→(((a2.kind==3)=true→((eI a2 true true false false false)=true→(fX a0 a2)))∧((a2.kind==3)=false→((a2.kind==4)=true→(((eI a2 false false false false true)&&(decide ((eV a1 a2.of_)≥0)))=true→(0≤(eV a1 a2.of_)∧(eV a1 a2.of_) < (a1.length:Int)))))))))))
@[go_sem] def rS:List SV→Option Con:=(pD .district fun a0=>(pR .deed fun a1=>(pD .deed fun a2=>(pE (.det (lN a0 a1 a2) (.v (.bool (mr a0 a1 a2))))))))
theorem xG:FnOk Tryz.prog 46 rS:=by
 have hG:ConsOk Tryz.prog (mkG [(69,fun l=>tC (cT [.st .deed,.o,.o,.o,.o,.o] l)),(70,fun l=>qA (cT [.st .district,.st .deed] l)),(71,fun l=>rQ (cT [.st .district,.sl .part] l)),(72,fun l=>rR (cT [.sl .deed,.o] l))] []):=ay (cgc (yi.norm [.st .deed,.o,.o,.o,.o,.o]) (cgc (vD.norm [.st .district,.st .deed]) (cgc (xE.norm [.st .district,.sl .part]) (cgc (xF.norm [.sl .deed,.o]) cg0)))) cg0
 refine aU [.o] mixed am hG (fn:=Tryz.f46) (c:=ae Tryz.f46) (by kernel_rfl) (by kernel_rfl) (by kernel_rfl) (by kernel_rfl) (bb fun a0=>(dw fun a1=>(bb fun a2=>(aI (fun hp=>?_)))))
 dsimp only[aG]at hp
 unfold lN at hp
 refine⟨Nat.le_of_ble_eq_true rfl,L0,ah _,?_⟩
 ·unfold ae Tryz.f46
  try unfold mr
  simp only[go_sem,Nat.reduceBEq,Nat.reduceLeDiff,Nat.reduceLT,decide_true,Nat.reduceAdd,Nat.reduceSub,Nat.reduceMul,Int.reduceLE,Int.reduceLT,Int.reduceToNat,Int.reduceNeg,reduceCtorEq]
  all_goals exact cl
@[go_sem] def gX (l_:List Deed)(k_0:Nat)(s_0:Unit):Unit⊕Unit:=(bif(decide ((((l_.getD k_0 (default:Deed)).parts).length:Int) > 16))then .inl ()else .inr ())
def lh (l_:List Deed):Bool:=(bif(decide ((l_.length:Int) > 512))then true else(match ak (gX l_) l_.length 0 ()with| .inl x_0_0=>true| .inr s_0=>false))
@[go_sem] def tD:List SV→Option Con:=(pR .deed fun l_=>(pE (.det True (.v (.bool (lh l_))))))
theorem yj:FnOk Tryz.prog 45 tD:=by
 have hG:ConsOk Tryz.prog (mkG [] []):=ay cg0 cg0
 refine aU [.o] mixed am hG (fn:=Tryz.f45) (c:=ae Tryz.f45) (by kernel_rfl) (by kernel_rfl) (by kernel_rfl) (by kernel_rfl) (dw fun l_=>(aI (fun hp=>?_)))
 dsimp only[aG]at hp
 refine⟨Nat.le_of_ble_eq_true rfl,(fun id st=>bif Nat.beq id 0 then some (LCR (ρ:=Unit) (σ:=Unit) 0 [] [] (fun k_0 s_0=>⟨[(0,.rs .deed l_),(3,.v (.int .i64 (k_0:Int)))],[]⟩) (gX l_) pT l_.length () (True) (fun _=>.ret) (fun x_0_0=>⟨[(2,.v (.bool true))],[]⟩) st)else none),?_,?_⟩
 ·unfold ae Tryz.f45
  simp only[al,true_and,and_true]
  ·refine c_ (l_.length≤bv) mixed am hG (by kernel_rfl) (fun _=>rfl) (l_.length:Int) rfl gM (fun hb0 k_0 s_0 hlt0 _ hw hc=>⟨L0,ah _,?_⟩) (fun hb0 s_0 hc=>?_) fun hb0 k_0 s_0=>?_
   ·exact jh
   ·exact ji
   ·simp only[go_sem,Nat.reduceBEq,Nat.reduceLeDiff,Nat.reduceLT,decide_true,Nat.reduceAdd,Nat.reduceSub,Nat.reduceMul,Int.reduceLE,Int.reduceLT,Int.reduceToNat,Int.reduceNeg,reduceCtorEq,hb0]
 ·unfold ae Tryz.f45
  try unfold lh
  simp only[go_sem,Nat.reduceBEq,Nat.reduceLeDiff,Nat.reduceLT,decide_true,Nat.reduceAdd,Nat.reduceSub,Nat.reduceMul,Int.reduceLE,Int.reduceLT,Int.reduceToNat,Int.reduceNeg,reduceCtorEq]
  all_goals exact cl
@[go_sem] def iC (d:District)(l_:List Deed)(k_0:Nat)(s_0:Unit):Unit⊕Unit:=(bif(((decide ((k_0:Int) > 0))&&(decide ((l_.getD k_0 (default:Deed)).no≤(l_.getD (Int.toNat (IntKind.i64.wrap ((k_0:Int) - 1))) (default:Deed)).no))) ||(!(mr d ((l_.take k_0).drop 0) (l_.getD k_0 (default:Deed)))))then .inl ()else .inr ())
def li (d:District)(l_:List Deed)(k_0:Nat)(s_0:Unit):Prop:=(l_.length≤bv→(((decide ((k_0:Int) > 0))=true→(0≤(IntKind.i64.wrap ((k_0:Int) - 1))∧(IntKind.i64.wrap ((k_0:Int) - 1)) < (l_.length:Int)))∧((((decide ((k_0:Int) > 0))&&(decide ((l_.getD k_0 (default:Deed)).no≤(l_.getD (Int.toNat (IntKind.i64.wrap ((k_0:Int) - 1))) (default:Deed)).no)))=false→(0≤0∧0≤(k_0:Int)∧(k_0:Int)≤(l_.length:Int)))∧(((decide ((k_0:Int) > 0))&&(decide ((l_.getD k_0 (default:Deed)).no≤(l_.getD (Int.toNat (IntKind.i64.wrap ((k_0:Int) - 1))) (default:Deed)).no)))=false→(lN d ((l_.take k_0).drop 0) (l_.getD k_0 (default:Deed)))))))
def eW (d:District)(l_:List Deed):Int:=(bif((ir d) !=0)then(ir d)else(bif(lh l_)then 2 else(match ak (iC d l_) l_.length 0 ()with| .inl x_0_0=>250| .inr s_0=>0)))
def jq (d:District)(l_:List Deed):Prop:=((lI d)∧(((ir d) !=0)=false→((lh l_)=false→okI (iC d l_) (li d l_) l_.length 0 ())))
@[go_sem] def od:List SV→Option Con:=(pD .district fun d=>(pR .deed fun l_=>(pE (.det (jq d l_) (.v (.int .i64 (eW d l_)))))))
theorem qB:FnOk Tryz.prog 16 od:=by
 have hG:ConsOk Tryz.prog (mkG [(44,fun l=>rL (cT [.st .district] l)),(45,fun l=>tD (cT [.sl .deed] l)),(46,fun l=>rS (cT [.st .district,.sl .deed,.st .deed] l))] []):=ay (cgc (xh.norm [.st .district]) (cgc (yj.norm [.sl .deed]) (cgc (xG.norm [.st .district,.sl .deed,.st .deed]) cg0))) cg0
 refine aU [.o] mixed am hG (fn:=Tryz.f16) (c:=ae Tryz.f16) (by kernel_rfl) (by kernel_rfl) (by kernel_rfl) (by kernel_rfl) (bb fun d=>(dw fun l_=>(aI (fun hp=>?_))))
 dsimp only[aG]at hp
 unfold jq at hp
 refine⟨Nat.le_of_ble_eq_true rfl,(fun id st=>bif Nat.beq id 0 then some (LCR (ρ:=Unit) (σ:=Unit) 1 [] [0] (fun k_0 s_0=>⟨[(1,.rs .deed l_),(2,.ptr 0 0),(6,.v (.int .i64 (k_0:Int)))],[.cells (cellsOf .district d)]⟩) (iC d l_) (li d l_) l_.length () (True) (fun _=>.ret) (fun x_0_0=>⟨[(4,.v (.int .i64 250))],[.dead]⟩) st)else none),?_,?_⟩
 ·unfold ae Tryz.f16
  simp only[al,true_and,and_true]
  ·refine c_ (l_.length≤bv) mixed am hG (by kernel_rfl) (fun _=>rfl) (l_.length:Int) rfl gM (fun hb0 k_0 s_0 hlt0 hq0 hw hc=>⟨L0,ah _,?_⟩) (fun hb0 s_0 hc=>?_) fun hb0 k_0 s_0=>?_
   ·unfold li at hq0
    try simp only[hw,Int.toNat_natCast]at hq0
    exact fS
   ·exact fT
   ·simp only[go_sem,Nat.reduceBEq,Nat.reduceLeDiff,Nat.reduceLT,decide_true,Nat.reduceAdd,Nat.reduceSub,Nat.reduceMul,Int.reduceLE,Int.reduceLT,Int.reduceToNat,Int.reduceNeg,reduceCtorEq,hb0]
 ·unfold ae Tryz.f16
  try unfold eW
  simp only[go_sem,Nat.reduceBEq,Nat.reduceLeDiff,Nat.reduceLT,decide_true,Nat.reduceAdd,Nat.reduceSub,Nat.reduceMul,Int.reduceLE,Int.reduceLT,Int.reduceToNat,Int.reduceNeg,reduceCtorEq]
  all_goals exact cl
@[go_sem] def gY (l_:List Deed)(x:Deed)(known:Int)(k_0:Nat)(s_0:Unit):Unit⊕Unit:=(bif((((l_.getD k_0 (default:Deed)).kind==4)&&((l_.getD k_0 (default:Deed)).of_==x.no))&&(decide ((l_.getD k_0 (default:Deed)).known≤known)))then .inl ()else .inr ())
def lj (l_:List Deed)(x:Deed)(known:Int):Bool:=(match ak (gY l_ x known) l_.length 0 ()with| .inl x_0_0=>true| .inr s_0=>false)
@[go_sem] def tE:List SV→Option Con:=(pR .deed fun l_=>(pD .deed fun x=>(pI fun known=>(pE (.det True (.v (.bool (lj l_ x known))))))))
theorem yk:FnOk Tryz.prog 82 tE:=by
 have hG:ConsOk Tryz.prog (mkG [] []):=ay cg0 cg0
 refine aU [.o] mixed am hG (fn:=Tryz.f82) (c:=ae Tryz.f82) (by kernel_rfl) (by kernel_rfl) (by kernel_rfl) (by kernel_rfl) (dw fun l_=>(bb fun x=>(co fun known=>(aI (fun hp=>?_)))))
 dsimp only[aG]at hp
 refine⟨Nat.le_of_ble_eq_true rfl,(fun id st=>bif Nat.beq id 0 then some (LCR (ρ:=Unit) (σ:=Unit) 1 [] [0] (fun k_0 s_0=>⟨[(0,.rs .deed l_),(2,.v (.int .i64 known)),(4,.ptr 0 0),(7,.v (.int .i64 (k_0:Int)))],[.cells (cellsOf .deed x)]⟩) (gY l_ x known) pT l_.length () (True) (fun _=>.ret) (fun x_0_0=>⟨[(6,.v (.bool true))],[.dead]⟩) st)else none),?_,?_⟩
 ·unfold ae Tryz.f82
  simp only[al,true_and,and_true]
  ·refine c_ (l_.length≤bv) mixed am hG (by kernel_rfl) (fun _=>rfl) (l_.length:Int) rfl gM (fun hb0 k_0 s_0 hlt0 _ hw hc=>⟨L0,ah _,?_⟩) (fun hb0 s_0 hc=>?_) fun hb0 k_0 s_0=>?_
   ·exact fS
   ·exact fT
   ·simp only[go_sem,Nat.reduceBEq,Nat.reduceLeDiff,Nat.reduceLT,decide_true,Nat.reduceAdd,Nat.reduceSub,Nat.reduceMul,Int.reduceLE,Int.reduceLT,Int.reduceToNat,Int.reduceNeg,reduceCtorEq,hb0]
 ·unfold ae Tryz.f82
  try unfold lj
  simp only[go_sem,Nat.reduceBEq,Nat.reduceLeDiff,Nat.reduceLT,decide_true,Nat.reduceAdd,Nat.reduceSub,Nat.reduceMul,Int.reduceLE,Int.reduceLT,Int.reduceToNat,Int.reduceNeg,reduceCtorEq]
  all_goals exact cl
@[go_sem] def eE (l_:List Deed)(known:Int)(s_0:List Deed×Int)(k_1:Nat)(s_1:List Deed):Empty⊕(List Deed):=(bif(((((l_.getD k_1 (default:Deed)).at_==s_0.2)&&((l_.getD k_1 (default:Deed)).kind !=4))&&(decide ((l_.getD k_1 (default:Deed)).known≤known)))&&(!(lj l_ (l_.getD k_1 (default:Deed)) known)))then .inr (s_1++([(l_.getD k_1 (default:Deed))]))else .inr s_1)
def i9 (l_:List Deed)(known:Int)(s_0:List Deed×Int)(k_1:Nat)(s_1:List Deed):Prop:=(l_.length≤bv→((((((l_.getD k_1 (default:Deed)).at_==s_0.2)&&((l_.getD k_1 (default:Deed)).kind !=4))&&(decide ((l_.getD k_1 (default:Deed)).known≤known)))&&(!(lj l_ (l_.getD k_1 (default:Deed)) known)))=true→((s_1++([(l_.getD k_1 (default:Deed))])).length*88≤gJ)))
@[go_sem] def dX (l_:List Deed)(hour:Int)(known:Int)(k_0:Nat)(s_0:List Deed×Int):(List Deed)⊕(List Deed×Int):=(bif((decide (s_0.2≤4096))&&(decide (s_0.2≤hour)))then(match ak (eE l_ known s_0) l_.length 0 s_0.1 with| .inl x=>x.elim| .inr s_1=>.inr (s_1,(IntKind.i64.wrap (s_0.2+1))))else .inl s_0.1)
def eP (l_:List Deed)(hour:Int)(known:Int)(k_0:Nat)(s_0:List Deed×Int):Prop:=(((decide (s_0.2≤4096))&&(decide (s_0.2≤hour)))=true→okI (eE l_ known s_0) (i9 l_ known s_0) l_.length 0 s_0.1)
def aW (l_:List Deed)(hour:Int)(known:Int):List Deed:=(match ak (dX l_ hour known) (Int.toNat hour+2) 0 ([],0)with| .inl x_0_0=>x_0_0| .inr s_0=>default)
def fa (l_:List Deed)(hour:Int)(known:Int):Prop:=(okI (dX l_ hour known) (eP l_ hour known) (Int.toNat hour+2) 0 ([],0)∧(∀ z_,ak (dX l_ hour known) (Int.toNat hour+2) 0 ([],0)≠ .inr z_))
@[go_sem] def ll:List SV→Option Con:=(pR .deed fun l_=>(pI fun hour=>(pI fun known=>(pE (.det (fa l_ hour known) (.nw .deed (aW l_ hour known)))))))
theorem nY:FnOk Tryz.prog 53 ll:=by
 have hG:ConsOk Tryz.prog (mkG [(82,fun l=>tE (cT [.sl .deed,.st .deed,.o] l))] []):=ay (cgc (yk.norm [.sl .deed,.st .deed,.o]) cg0) cg0
 refine n_ [(.tmp 6,.deed)] mixed am hG (fn:=Tryz.f53) (c:=ae Tryz.f53) (by kernel_rfl) (by kernel_rfl) (by kernel_rfl) (by kernel_rfl) (dw fun l_=>(co fun hour=>(co fun known=>(aI (fun hp=>?_)))))
 dsimp only[aG]at hp
 unfold fa at hp
 refine⟨Nat.le_of_ble_eq_true rfl,(fun id st=>bif Nat.beq id 0 then some (LCV (ρ:=(List Deed)) (σ:=(List Deed×Int)) 0 [.slot 7 (.row .deed ([]))] [0] (fun k_0 s_0=>⟨[(0,.rs .deed l_),(1,.v (.int .i64 hour)),(2,.v (.int .i64 known)),(7,.os 0),(8,.v (.int .i64 s_0.2))],[.row .deed s_0.1]⟩) (dX l_ hour known) (eP l_ hour known) (Int.toNat hour+2) ([],0) (fun _=>.normal) (fun x_0_0=>⟨[(7,.os 0)],[.row .deed x_0_0]⟩) st)else none),?_,?_⟩
 ·unfold ae Tryz.f53
  simp only[al,true_and,and_true]
  ·refine eO mixed am hG (by kernel_rfl) (fun _=>rfl) fun k_0 s_0 hq0=>⟨(fun id st=>bif Nat.beq id 2 then some (LCR (ρ:=Empty) (σ:=(List Deed)) 1 [] [0,0] (fun k_1 s_1=>⟨[(0,.rs .deed l_),(1,.v (.int .i64 hour)),(2,.v (.int .i64 known)),(7,.os 1),(8,.v (.int .i64 s_0.2)),(9,.v (.int .i64 (k_1:Int)))],[.dead,.row .deed s_1]⟩) (eE l_ known s_0) (i9 l_ known s_0) l_.length s_0.1 (True) ((·.elim)) ((·.elim)) st)else none),?_,?_⟩
   ·simp only[al,true_and,and_true]
    ·refine c_ (l_.length≤bv) mixed am hG (by kernel_rfl) (fun _=>rfl) (l_.length:Int) rfl gM (fun hb1 k_1 s_1 hlt1 hq1 hw hc=>⟨L0,ah _,?_⟩) (fun hb1 s_1 hc=>?_) fun hb1 k_1 s_1=>?_
     ·unfold i9 at hq1
      try simp only[hw,Int.toNat_natCast]at hq1
      exact IT
     ·exact IU
     ·simp only[go_sem,Nat.reduceBEq,Nat.reduceLeDiff,Nat.reduceLT,decide_true,Nat.reduceAdd,Nat.reduceSub,Nat.reduceMul,Int.reduceLE,Int.reduceLT,Int.reduceToNat,Int.reduceNeg,reduceCtorEq,hb1]
   ·unfold eP at hq0
    exact IS
 ·unfold ae Tryz.f53
  try unfold aW
  simp only[go_sem,Nat.reduceBEq,Nat.reduceLeDiff,Nat.reduceLT,decide_true,Nat.reduceAdd,Nat.reduceSub,Nat.reduceMul,Int.reduceLE,Int.reduceLT,Int.reduceToNat,Int.reduceNeg,reduceCtorEq]
  all_goals exact cl
end Go.Sx
end
section
namespace Go.Sx
open Go.Proofs
theorem xH {ρ ρ' σ σ':Type}{f:Nat→σ→ρ⊕σ}{g:Nat→σ'→ρ'⊕σ'}(R:Nat→σ→σ'→Prop):∀ (n i:Nat) (s:σ) (t:σ'),R i s t→(∀ j s t,i≤j→j<i+n→R j s t→(∃ a b,f j s=.inl a∧g j t=.inl b)∨∃ s' t',f j s=.inr s'∧g j t=.inr t'∧R (j+1) s' t')→
  (∃ a b,ak f n i s=.inl a∧ak g n i t=.inl b)∨∃ s' t',ak f n i s=.inr s'∧ak g n i t=.inr t'∧R (i+n) s' t'
 |0,i,s,t,h,_=>.inr ⟨s,t,rfl,rfl,h⟩
 |n+1,i,s,t,h,hs=>by
  rcases hs i s t (Nat.le_refl _) (by omega) h with⟨a,b,e1,e2⟩ | ⟨s',t',e1,e2,h'⟩
  ·exact .inl ⟨a,b,by simp only[ak,e1],by simp only[ak,e2]⟩
  ·simp only[ak,e1,e2]
   have:=xH R n (i+1) s' t' h' fun j s t h1 h2=>hs j s t (by omega) (by omega)
   rwa[show i+1+n=i+(n+1) by omega]at this
theorem Lr (l:List Part)(k:Nat):ak (dW l k) k 0 ()=.inr ()↔∀ i,i<k→(l.getD i default).farm≠(l.getD k default).farm:=by
 rw[dF]
 refine forall_congr' fun i=>forall_congr' fun _=>?_
 unfold dW
 cases h:(l.getD i default).farm==(l.getD k default).farm with
 |true=>simp only[cond_true];rw[beq_iff_eq]at h;exact⟨(fun e=>by cases e),fun e=>absurd h e⟩
 |false=>simp only[cond_false];rw[beq_eq_false_iff_ne]at h;exact⟨fun _=>h,fun _=>by first|rfl|trivial⟩
theorem Gn (l:List Part)(k:Nat)(hk:k≤l.length)(f:Int):f∈(l.take k).map (fun x=>x.farm)↔∃ i,i<k∧(l.getD i default).farm=f:=by
 rw[List.mem_map]
 constructor
 ·rintro⟨x,hx,rfl⟩
  obtain⟨i,hi,rfl⟩:=List.mem_iff_getElem.1 hx
  rw[List.length_take]at hi
  exact⟨i,by omega,by rw[eD l _ (by omega),List.getElem_take]⟩
 ·rintro⟨i,hi,rfl⟩
  refine⟨l.getD i default,?_,rfl⟩
  rw[eD l _ (by omega)]
  exact List.mem_iff_getElem.2 ⟨i,by rw[List.length_take];omega,by rw[List.getElem_take]⟩
theorem Gp {a:Ratio}(h:RatioOk a):(a.n==a.d)=((a.n==1)&&(a.d==1)):=by
 rw[Bool.eq_iff_iff,Bool.and_eq_true,beq_iff_eq,beq_iff_eq,beq_iff_eq]
 constructor
 ·intro e
  have h1:=h.gcd
  rw[e]at h1 ⊢
  have h2:=h.d1
  have:a.d.natAbs=a.d.toNat:=by omega
  rw[this,Nat.gcd_self]at h1
  omega
 ·rintro⟨h1,h2⟩;rw[h1,h2]
theorem Ls (d:District)(l:List Part):lM d l:=fun hl _=>iL _ _ _ fun j s _ hj hl'=>⟨fun _=>qT _,fun _=>⟨by unfold bv at *;omega,iL _ _ _ fun i s _ hi=>by rw[Int.toNat_natCast]at hi;exact⟨by omega,by omega⟩,fun _ _=>(Cg _ _).1⟩⟩
theorem IV {d:District}(hf:d.farms.length≤600)(l:List Part):mq d l=fg d l:=by
 unfold mq fg
 have h01:RatioOk { n:=0,d:=1}:=⟨by decide,by decide,by decide,by decide,by decide⟩
 have key:=xH (f:=dU d l) (g:=iB d l) (fun j s t=>t=(s.1,s.2.1)∧RatioOk { n:=s.1,d:=s.2.1}∧∀ f:Int,dz .int .bool s.2.2 f=decide (f∈(l.take j).map fun x=>x.farm)) l.length 0 (0,1,[]) (0,1) ⟨rfl,h01,fun f=>by simp[dz,fc,dE]⟩ (fun j s t _ hj ⟨j1,j2,j3⟩ =>by
  rw[Nat.zero_add]at hj
  subst j1
  unfold dU iB
  rw[Int.toNat_natCast]
  have hin:=qs (l.getD j default).farm (k:=d.farms.length) (by omega)
  have hm:=j3 (l.getD j default).farm
  have hadd:=Cg { n:=s.1,d:=s.2.1} (l.getD j default).share
  have hd:=Lr l j
  rw[hadd.2]
  have htk:=bH l default hj
  have htf:=Gn l j (by omega) (l.getD j default).farm
  generalize hp:l.getD j default=p at *
  by_cases hA:0≤p.farm∧p.farm< (d.farms.length:Int)
  ·have hA1:=hin.2 hA
   have hA2:((decide (p.farm<0)) ||(decide (p.farm≥(d.farms.length:Int))))=false:=by
    rw[Bool.or_eq_false_iff,decide_eq_false_iff_not,decide_eq_false_iff_not];omega
   rw[hA1,hA2,hm]
   by_cases hC:p.share.n≤0
   ·rw[decide_eq_true hC]
    simp only[Bool.or_true,cond_true]
    exact .inl ⟨(),(),by first|rfl|trivial,by first|rfl|trivial⟩
   ·rw[decide_eq_false hC]
    simp only[Bool.not_true,Bool.false_or,Bool.or_false]
    by_cases hV:RatioOk p.share
    ·rw[(la _).2 hV]
     simp only[Bool.not_true,cond_false]
     by_cases hB:p.farm∈(l.take j).map fun x=>x.farm
     ·rw[decide_eq_true hB]
      simp only[cond_true]
      have hn:ak (dW l j) j 0 ()≠ .inr ():=fun e=>by
       obtain⟨i,hi,e2⟩:=htf.1 hB
       exact hd.1 e i hi e2
      cases hr:ak (dW l j) j 0 ()with
      |inl x=>exact .inl ⟨(),(),by first|rfl|trivial,by first|rfl|trivial⟩
      |inr x=>exact absurd (by rw[hr]) hn
     ·rw[decide_eq_false hB]
      simp only[cond_false]
      have hn:ak (dW l j) j 0 ()=.inr ():=hd.2 fun i hi e=>hB (htf.2 ⟨i,hi,e⟩)
      rw[hn]
      simp only
      cases he:((dL { n:=s.1,d:=s.2.1} p.share).2 !=0)with
      |true=>exact .inl ⟨(),(),by first|rfl|trivial,by first|rfl|trivial⟩
      |false=>
       have he:(dL { n:=s.1,d:=s.2.1} p.share).2=0:=by simpa using he
       obtain⟨_,_,a3,_⟩:=Iv (r:=(dL { n:=s.1,d:=s.2.1} p.share).1) (by rw[←he])
       refine .inr ⟨_,_,rfl,rfl,rfl,a3,fun f=>?_⟩
       rw[oO,htk,List.map_append]
       by_cases hf:f=p.farm
       ·subst hf;simp
       ·rw[if_neg hf,j3,decide_eq_decide]
        simp only[List.mem_append,List.map_cons,List.map_nil,List.mem_singleton]
        exact⟨.inl,fun h=>h.elim id fun e=>absurd e hf⟩
    ·have hV2:cJ p.share=false:=by
      cases h:cJ p.share with
      |true=>exact absurd ((la _).1 h) hV
      |false=>rfl
     rw[hV2]
     simp only[Bool.not_false,cond_true]
     have he:((dL { n:=s.1,d:=s.2.1} p.share).2 !=0)=true:=by
      rw[DL,if_neg (fun h=>hV ((dZ _).1 h.2))];rfl
     rw[he]
     cases decide (p.farm∈(l.take j).map fun x=>x.farm) <;>exact .inl ⟨(),(),by first|rfl|trivial,by first|rfl|trivial⟩
  ·have hA1:an p.farm 0 (IntKind.i64.wrap ((d.farms.length:Int) - 1))=false:=by
    cases h:an p.farm 0 (IntKind.i64.wrap ((d.farms.length:Int) - 1))with
    |true=>exact absurd (hin.1 h) hA
    |false=>rfl
   have hA2:((decide (p.farm<0)) ||(decide (p.farm≥(d.farms.length:Int))))=true:=by
    rw[Bool.or_eq_true,decide_eq_true_eq,decide_eq_true_eq];omega
   rw[hA1,hA2]
   exact .inl ⟨(),(),by first|rfl|trivial,by first|rfl|trivial⟩)
 by_cases hl:1≤l.length∧l.length≤16
 ·have e1:((decide ((l.length:Int) <1)) ||(decide ((l.length:Int) > 16)))=false:=by
   rw[Bool.or_eq_false_iff,decide_eq_false_iff_not,decide_eq_false_iff_not];omega
  have e2:an (l.length:Int) 1 16=true:=(oa _ _ _).2 (by omega)
  rw[e1,e2]
  simp only[cond_false,Bool.true_and]
  rcases key with⟨a,b,q1,q2⟩ | ⟨s,t,q1,q2,q3,q4,_⟩
  ·rw[q1,q2]
  ·rw[q1,q2]
   subst q3
   exact Gp q4
 ·have e1:((decide ((l.length:Int) <1)) ||(decide ((l.length:Int) > 16)))=true:=by
   rw[Bool.or_eq_true,decide_eq_true_eq,decide_eq_true_eq];omega
  have e2:an (l.length:Int) 1 16=false:=by
   cases h:an (l.length:Int) 1 16 with
   |true=>have:=(oa _ _ _).1 h;omega
   |false=>rfl
  rw[e1,e2]
  simp only[cond_true,Bool.false_and]
  split <;>rfl
theorem Ci (b:List Deed)(n:Int):(eV b n= -1∧∀ y∈b,¬ (y.no=n∧y.kind≠4))∨∃ K y R,b=K++y::R∧eV b n=(K.length:Int)∧y.no=n∧y.kind≠4:=by
 unfold eV
 have hP:∀ y:Deed,((y.no==n)&&(y.kind !=4))=true↔(y.no=n∧y.kind≠4):=fun y=>by rw[Bool.and_eq_true,beq_iff_eq,bne_iff_ne]
 rcases Cd (step:=nD b n) b default (fun y=>(y.no==n)&&(y.kind !=4)) (fun k _=>rfl)with⟨e,h⟩ | ⟨K,x,R,h1,e,h2,h3⟩
 ·rw[e]
  exact .inl ⟨rfl,fun y hy hh=>by have:=h y hy;rw[(hP y).2 hh]at this;cases this⟩
 ·rw[e]
  exact .inr ⟨K,x,R,h1,rfl,(hP x).1 h2⟩
theorem Lt {d:District}(hf:d.farms.length≤600)(hr:d.rights.length≤256){b:List Deed}(hb:Asc b)(x:Deed):mr d b x=ca d (oc b) x:=by
 unfold mr ca
 have hh:fF d x=((an x.right 0 (IntKind.i64.wrap ((d.rights.length:Int) - 1)))&&((d.rights.getD (Int.toNat x.right) (default:Right)).kind==1)&&(an x.since 0 (IntKind.i64.wrap ((d.farms.length:Int) - 1)))):=by
  unfold fF
  rw[Bool.eq_iff_iff]
  simp only[Bool.and_eq_true,decide_eq_true_eq]
  rw[qs _ (by omega),qs _ (by omega)]
  constructor
  ·rintro⟨⟨⟨⟨a,b⟩,c⟩,e⟩,f⟩;exact⟨⟨⟨a,b⟩,c⟩,e,f⟩
  ·rintro⟨⟨⟨a,b⟩,c⟩,e,f⟩;exact⟨⟨⟨⟨a,b⟩,c⟩,e⟩,f⟩
 have hto:((decide (x.to≥0))&&(decide (x.to< (d.farms.length:Int))))=an x.to 0 (IntKind.i64.wrap ((d.farms.length:Int) - 1)):=by
  rw[Bool.eq_iff_iff,qs _ (by omega),Bool.and_eq_true,decide_eq_true_eq,decide_eq_true_eq]
 have hrg:(((((((decide (x.no<0)) ||(decide (x.no > 1048576))) ||(decide (x.at_<0))) ||(decide (x.at_ > 4096))) ||(decide (x.known<0))) ||(decide (x.known > 1048576))))=(((!(an x.no 0 1048576)) ||(!(an x.at_ 0 4096))) ||(!(an x.known 0 1048576))):=by
  rw[Bool.eq_iff_iff]
  simp only[Bool.or_eq_true,decide_eq_true_eq,Bool.not_eq_true',←Bool.not_eq_true,oa]
  omega
 rw[hrg,hh]
 cases hg:(((!(an x.no 0 1048576)) ||(!(an x.at_ 0 4096))) ||(!(an x.known 0 1048576)))with
 |true=>simp
 |false=>
  simp only[Bool.false_or,cond_false]
  unfold gW eI
  simp only[Bool.true_or,Bool.false_or,Bool.true_and]
  by_cases k1:x.kind=1
  ·rw[show(x.kind==1)=true by rw[k1];rfl]
   simp only[cond_true]
   rw[←hto]
   cases(x.parts.length:Int) ==0 <;>cases x.of_==0 <;>simp[Bool.and_assoc]
  ·rw[show(x.kind==1)=false by simpa using k1]
   by_cases k2:x.kind=2
   ·rw[show(x.kind==2)=true by rw[k2];rfl]
    simp only[cond_true,cond_false]
    rw[IV hf]
    cases x.to==0 <;>cases x.of_==0 <;>simp
   ·rw[show(x.kind==2)=false by simpa using k2]
    by_cases k3:x.kind=3
    ·rw[show(x.kind==3)=true by rw[k3];rfl]
     simp only[cond_true,cond_false]
     cases x.to==0 <;>cases(x.parts.length:Int) ==0 <;>cases x.of_==0 <;>simp
    ·rw[show(x.kind==3)=false by simpa using k3]
     by_cases k4:x.kind=4
     ·rw[show(x.kind==4)=true by rw[k4];rfl]
      simp only[cond_true,cond_false,Bool.or_true,Bool.and_true]
      cases hz:((((x.right==0)&&(x.since==0))&&(x.to==0))&&((x.parts.length:Int) ==0))with
      |false=>simp
      |true=>
       simp only[Bool.true_and,Bool.not_true,cond_false]
       rw[Cc]
       rcases Ci b x.of_ with⟨e,hno⟩ | ⟨K,y,R,e1,e2,e3,e4⟩
       ·rw[e]
        simp only[show decide ((-1:Int)≥0)=false by decide,Bool.false_and]
        cases ha:b.any fun y=>y.no==x.of_ with
        |false=>rfl
        |true=>
         rw[List.any_eq_true]at ha
         obtain⟨y,hy,hn⟩:=ha
         have hn:y.no=x.of_:=by simpa using hn
         have hk:y.kind=4:=Classical.byContradiction fun hk=>hno y hy ⟨hn,hk⟩
         rw[←hn,qy hb hy,hk];rfl
       ·have hy:y∈b:=by rw[e1];simp
        have hg2:b.getD (Int.toNat (K.length:Int)) default=y:=by rw[Int.toNat_natCast,e1];simp[List.getD_eq_getElem?_getD]
        have ha:(b.any fun y=>y.no==x.of_)=true:=List.any_eq_true.2 ⟨y,hy,by simp[e3]⟩
        rw[e2,hg2,ha,←e3,qy hb hy,decide_eq_true (by omega:(K.length:Int)≥0)]
        simp[e4]
     ·rw[show(x.kind==4)=false by simpa using k4]
      simp
theorem xI (d:District)(x:Deed):fX d x:=fun h=>by
 simp only[Bool.and_eq_true,decide_eq_true_eq]at h;omega
theorem Gq (d:District)(b:List Deed)(x:Deed):lN d b x:=fun _=>⟨fun _ _=>xI _ _,fun _=>⟨fun _=>⟨fun _=>xI _ _,fun _=>Ls _ _⟩,fun _=>⟨fun _ _=>xI _ _,fun _ _ h=>by
 simp only[Bool.and_eq_true,decide_eq_true_eq]at h
 rcases Ci b x.of_ with⟨e,_⟩ | ⟨K,y,R,e1,e2,_⟩
 ·rw[e]at h;omega
 ·rw[e2,e1];simp;omega⟩⟩⟩
theorem IW (l:List Deed):lh l=((decide ((l.length:Int) > 512)) ||aA l):=by
 unfold lh
 cases decide ((l.length:Int) > 512)with
 |true=>rfl
 |false=>
  simp only[cond_false,Bool.false_or]
  cases hr:ak (gX l) l.length 0 ()with
  |inr s=>
   have h:=dF.1 hr
   symm
   refine(lL l).2 fun x hx=>?_
   obtain⟨j,hj,rfl⟩:=List.mem_iff_getElem.1 hx
   have:=h j hj
   unfold gX at this
   rw[eD l _ hj]at this
   cases hc:decide (((l[j].parts).length:Int) > 16)with
   |true=>rw[hc]at this;cases this
   |false=>rw[decide_eq_false_iff_not]at hc;omega
  |inl y=>
   cases hc:aA l with
   |true=>rfl
   |false=>
    have h:=(lL l).1 hc
    have:ak (gX l) l.length 0 ()=.inr ():=dF.2 fun j hj=>by
     unfold gX
     rw[eD l _ hj,decide_eq_false (by have:=h l[j] (List.getElem_mem hj);omega)];rfl
    rw[this]at hr;cases hr
theorem mZ (d:District)(l:List Deed):jq d l:=⟨Gf d,fun _ _=>iL _ _ _ fun j s _ hj hl=>⟨fun h=>by
  rw[decide_eq_true_eq]at h
  rw[aT (by omega) (by unfold bv at *;omega)];omega,fun _=>⟨by omega,by omega,by omega⟩,fun _=>Gq _ _ _⟩⟩
theorem E4 (d:District)(l:List Deed):eW d l=aq d l:=by
 unfold eW aq
 rw[←Is d,IW]
 cases h1:(aV d !=0)with
 |true=>rfl
 |false=>
  simp only[cond_false]
  cases h2:((decide ((l.length:Int) > 512)) ||aA l)with
  |true=>rfl
  |false=>
   simp only[cond_false]
   have hr:=u0 (d:=d) h1
   rw[Bool.or_eq_false_iff,decide_eq_false_iff_not]at h2
   have key:=xH (f:=iC d l) (g:=c8 d l) (fun j _ t=>t=oc (l.take j)∧Asc (l.take j)) l.length 0 () [] ⟨rfl,by rw[List.take_zero];exact List.Pairwise.nil⟩ (fun j s t _ hj ⟨j1,j2⟩ =>by
    rw[Nat.zero_add]at hj
    subst j1
    unfold iC c8
    rw[List.drop_zero,Lt hr.farms hr.rights j2]
    cases hc:(((decide ((j:Int) > 0))&&(decide ((l.getD j (default:Deed)).no≤(l.getD (Int.toNat (IntKind.i64.wrap ((j:Int) - 1))) (default:Deed)).no))) ||(!(ca d (oc (l.take j)) (l.getD j (default:Deed)))))with
    |true=>exact .inl ⟨(),(),by first|rfl|trivial,by first|rfl|trivial⟩
    |false=>
     refine .inr ⟨(),_,rfl,rfl,by rw[bH l default hj,qU],?_⟩
     rw[bH l default hj]
     refine List.pairwise_append.2 ⟨j2,List.pairwise_singleton _ _,fun y hy z hz=>?_⟩
     simp only[List.mem_singleton]at hz
     subst hz
     rw[Bool.or_eq_false_iff,Bool.and_eq_false_iff,decide_eq_false_iff_not,decide_eq_false_iff_not]at hc
     obtain⟨i,hi,rfl⟩:=List.mem_iff_getElem.1 hy
     rw[List.length_take]at hi
     have h0:0<j:=by omega
     rw[uB (by omega) h0,Int.toNat_natCast]at hc
     have h3:(l.getD (j - 1) default).no< (l.getD j default).no:=by omega
     have h4:(l.take j)[i].no≤(l.getD (j - 1) default).no:=by
      rcases Nat.lt_or_ge i (j - 1)with h5|h5
      ·have:=List.pairwise_iff_getElem.1 j2 i (j - 1) (by rw[List.length_take];omega) (by rw[List.length_take];omega) h5
       rw[eD l _ (by omega)]
       rw[List.getElem_take,List.getElem_take]at this
       rw[List.getElem_take]
       omega
      ·have e:i=j - 1:=by omega
       subst e
       rw[eD l _ (by omega),List.getElem_take]
       exact Int.le_refl _
     omega)
   rcases key with⟨a,b,q1,q2⟩ | ⟨s,t,q1,q2,_⟩
   ·rw[q1,q2]
   ·rw[q1,q2]
end Go.Sx
end
section
namespace Go.Sx
open Go.Proofs
def mG (l:List Part)(n:Int)(g:Int→Int):Int→Int:=l.foldl (fun g p=>fI g p.farm (g p.farm+loP p n)) g
def kE (l:List Part)(g:Int→Int):Int→Int:=l.foldl (fun g p=>fI g p.farm (g p.farm+1)) g
def uE (l:List Part)(n:Int)(g:Int→Int):Int→Int:=kE (l.take (n - cd l n).toNat) (mG l n g)
def sq (x:Deed)(g:Int→Int):Int→Int:=
 if g x.since=0 then g else
 if x.kind=1 then fI (fI g x.since 0) x.to (fI g x.since 0 x.to+g x.since)else
 if x.kind=2 then uE x.parts (g x.since) (fI g x.since 0)else fI g x.since 0
theorem zi (l:List Part)(p:Part)(n:Int)(g:Int→Int):mG (l++[p]) n g=fI (mG l n g) p.farm (mG l n g p.farm+loP p n):=by
 unfold mG;rw[List.foldl_append];rfl
theorem xJ (l:List Part)(p:Part)(g:Int→Int):kE (l++[p]) g=fI (kE l g) p.farm (kE l g p.farm+1):=by
 unfold kE;rw[List.foldl_append];rfl
theorem pj (l:List Part)(p:Part)(n:Int):cd (l++[p]) n=cd l n+loP p n:=by
 unfold cd;simp
def PFit (F:Nat)(l:List Part):Prop:= ∀ p∈l,0≤p.farm∧p.farm< (F:Int)∧RatioOk p.share∧0<p.share.n
theorem PartsOk.fit {d:District}{l:List Part}(h:PartsOk d l):PFit d.farms.length l:=fun p hp=>⟨(h.part p hp).f0,(h.part p hp).f1,(h.part p hp).share,(h.part p hp).pos⟩
theorem na {F:Nat}{n:Int}(h0:0≤n):∀ (l:List Part) (g:Int→Int) (M:Int),PFit F l→Good F M g→Good F (M+cd l n) (mG l n g)∧tot F (mG l n g)=tot F g+cd l n
 | [],g,M,_,hg=>by simpa[mG,cd]using hg
 |p::l,g,M,hl,hg=>by
  obtain⟨a,b,c,e⟩:=hl p List.mem_cons_self
  have hlo:=Cf c e h0
  have hgf:=hg.nn p.farm
  have h1:Good F (M+loP p n) (fI g p.farm (g p.farm+loP p n)):=hg.put a b (by omega) (by have:=hg.tot;omega)
  obtain⟨q1,q2⟩:=na h0 l _ _ (fun q hq=>hl q (List.mem_cons_of_mem _ hq)) h1
  have e1:cd (p::l) n=loP p n+cd l n:=by simp[cd]
  rw[pi g p.farm _ F a b]at q2
  rw[e1]
  refine⟨by rw[show M+(loP p n+cd l n)=M+loP p n+cd l n by omega];exact q1,?_⟩
  show tot F (mG l n (fI g p.farm (g p.farm+loP p n)))=_
  rw[q2];omega
theorem pl {F:Nat}:∀ (l:List Part) (g:Int→Int) (M:Int),PFit F l→Good F M g→Good F (M+l.length) (kE l g)∧tot F (kE l g)=tot F g+l.length
 | [],g,M,_,hg=>by simpa[kE]using hg
 |p::l,g,M,hl,hg=>by
  obtain⟨a,b,c,e⟩:=hl p List.mem_cons_self
  have hgf:=hg.nn p.farm
  have h1:Good F (M+1) (fI g p.farm (g p.farm+1)):=hg.put a b (by omega) (by have:=hg.tot;omega)
  obtain⟨q1,q2⟩:=pl l _ _ (fun q hq=>hl q (List.mem_cons_of_mem _ hq)) h1
  rw[pi g p.farm _ F a b]at q2
  simp only[List.length_cons]
  refine⟨by rw[show M+((l.length+1:Nat):Int)=M+1+(l.length:Int) by omega];exact q1,?_⟩
  show tot F (kE l (fI g p.farm (g p.farm+1)))=_
  rw[q2];omega
theorem PFit.take {F:Nat}{l:List Part}(h:PFit F l)(k:Nat):PFit F (l.take k):=fun p hp=>h p (List.mem_of_mem_take hp)
theorem DY {d:District}{l:List Part}(h:PartsOk d l){n M:Int}(h0:0≤n){g:Int→Int}(hg:Good d.farms.length M g):Good d.farms.length (M+n) (uE l n g)∧tot d.farms.length (uE l n g)=tot d.farms.length g+n:=by
 obtain⟨q1,q2⟩:=na h0 l g M h.fit hg
 obtain⟨r1,r2⟩:=pl (l.take (n - cd l n).toNat) _ _ (h.fit.take _) q1
 obtain⟨l1,l2⟩:=AA h n
 have e:((l.take (n - cd l n).toNat).length:Int)=n - cd l n:=by rw[List.length_take];omega
 rw[e]at r1 r2
 refine⟨by rw[show M+n=M+cd l n+(n - cd l n) by omega];exact r1,?_⟩
 show tot _ (kE _ _)=_
 rw[r2,q2];omega
theorem Cj {d:District}{x:Deed}(hx:Fit d x)(hk:x.kind≠4){L:Int}{g:Int→Int}(hg:Good d.farms.length L g):Good d.farms.length L (sq x g)∧(x.kind≠3→tot d.farms.length (sq x g)=tot d.farms.length g):=by
 obtain⟨_,_,_,s0,s1⟩:=hx.held hk
 unfold sq
 by_cases hn:g x.since=0
 ·rw[if_pos hn];exact⟨hg,fun _=>rfl⟩
 rw[if_neg hn]
 have hnn:=hg.nn x.since
 have hT:=hg.tot
 have g1:Good d.farms.length (L - g x.since) (fI g x.since 0):=hg.put s0 s1 (Int.le_refl _) (by omega)
 have t1:=pi g x.since 0 d.farms.length s0 s1
 by_cases k1:x.kind=1
 ·rw[if_pos k1]
  obtain⟨a,b,c⟩:=hx.pass k1
  have h1:=g1.nn x.to
  have t2:=pi (fI g x.since 0) x.to (fI g x.since 0 x.to+g x.since) d.farms.length a b
  exact⟨g1.put a b (by omega) (by omega),fun _=>by omega⟩
 rw[if_neg k1]
 by_cases k2:x.kind=2
 ·rw[if_pos k2]
  obtain⟨q1,q2⟩:=DY (hx.split k2) hnn g1
  rw[show L - g x.since+g x.since=L by omega]at q1
  exact⟨q1,fun _=>by omega⟩
 ·rw[if_neg k2]
  refine⟨⟨g1.nn,g1.sup,by have:=g1.tot;omega⟩,fun k3=>?_⟩
  rcases hx.kind with e|e|e|e <;>omega
abbrev BM:=List (RegisterTitle×Int)
abbrev RT (r f:Int):RegisterTitle:= { right:=r,farm:=f}
def bk (m:BM):Int→Int→Int:=fun r f=>dz .registerTitle .int m (RT r f)
theorem E5 {a b c e:Int}:RT a b=RT c e↔a=c∧b=e:=by simp[RT]
theorem AB (m:BM)(r f v:Int):bk (fL .registerTitle .int m (RT r f) v)=fun r'=>if r'=r then fI (bk m r) f v else bk m r':=by
 funext r' f'
 unfold bk
 rw[oO]
 by_cases h:r'=r
 ·subst h
  rw[if_pos rfl]
  unfold fI
  by_cases h2:f'=f
  ·subst h2;simp
  ·rw[if_neg (fun e=>h2 (E5.1 e).2),if_neg h2]
 ·rw[if_neg (fun e=>h (E5.1 e).1),if_neg h]
theorem Oy (m:BM)(hN:(gQ m).Nodup)(r f:Int):bk (lP .registerTitle .int m (RT r f))=fun r'=>if r'=r then fI (bk m r) f 0 else bk m r':=by
 funext r' f'
 unfold bk dz lP
 have e:=(uD (RT r f) m hN).2.2 (RT r' f')
 have e':fc (tV m (RT r f)) (RT r' f')=if RT r' f'=RT r f then none else fc m (RT r' f'):=e
 by_cases h:r'=r
 ·subst h
  rw[if_pos rfl]
  unfold fI
  by_cases h2:f'=f
  ·subst h2;rw[e',if_pos rfl,if_pos rfl];rfl
  ·rw[e',if_neg (fun e=>h2 (E5.1 e).2),if_neg h2]
 ·rw[if_neg h,e',if_neg (fun e=>h (E5.1 e).1)]
theorem Good.le30 {F:Nat}{L:Int}{g:Int→Int}(h:Good F L g)(hL:L≤2147483648)(f:Int):0≤g f∧g f≤2147483648:=by
 have h1:=h.nn f
 by_cases e:g f=0
 ·omega
 ·obtain⟨a,b⟩:=h.sup f e
  have:=xC h.nn F f a b
  have:=h.tot
  omega
theorem Gr {d:District}{x:Deed}(hx:PartsOk d x.parts){n:Int}(h0:0≤n)(h1:n≤1073741824){m:BM}(hN:(gQ m).Nodup){M:Int}(hM:M+n≤2147483648)(hg:Good d.farms.length M (bk m x.right)):
  dD x n m∧(gQ (cp x n m)).Nodup∧bk (cp x n m)=fun r=>if r=x.right then uE x.parts n (bk m r)else bk m r:=by
 obtain⟨l1,l2⟩:=AA hx n
 obtain⟨⟨m1,lf⟩,e1,a1,a2,a3⟩:=iO (step:=bw x n) (fun k (s:BM×Int) =>(gQ s.1).Nodup∧(bk s.1=fun r=>if r=x.right then mG (x.parts.take k) n (bk m r)else bk m r)∧s.2=n - cd (x.parts.take k) n) x.parts.length 0 (m,n) ⟨hN,by funext r;by_cases h:r=x.right <;>simp[h,mG],by simp[cd]⟩ (fun j s _ hj ⟨j1,j2,j3⟩ =>by
  rw[Nat.zero_add]at hj
  have hm:x.parts.getD j default∈x.parts:=by rw[eD _ _ hj];exact List.getElem_mem _
  obtain⟨f0,f1,f2,f3⟩:=hx.fit _ hm
  have elo:(ei (x.parts.getD j default).share n).1=loP (x.parts.getD j default) n:=(IN f2 h0 h1).1
  have hlo:=Cf f2 f3 h0
  obtain⟨q1,q2⟩:=na h0 (x.parts.take j) _ _ (hx.fit.take _) hg
  have hs:∀ k,0≤cd (x.parts.take k) n∧cd (x.parts.take k) n≤cd x.parts n:=fun k=>by
   have key:∀ l:List Part,PFit d.farms.length l→0≤cd l n:=fun l=>by
    induction l with
    |nil=>intro _;simp[cd]
    |cons p r ih=>
     intro hp
     obtain⟨_,_,c,e⟩:=hp p List.mem_cons_self
     have:=Cf c e h0
     have:=ih fun q hq=>hp q (List.mem_cons_of_mem _ hq)
     have e:cd (p::r) n=loP p n+cd r n:=by simp[cd]
     omega
   have h1:=key _ (hx.fit.take k)
   have h2:=key (x.parts.drop k) fun p hp=>hx.fit p (List.mem_of_mem_drop hp)
   have h3:cd x.parts n=cd (x.parts.take k) n+cd (x.parts.drop k) n:=by
    conv=>lhs;rw[←List.take_append_drop k x.parts]
    unfold cd;rw[List.map_append,List.sum_append]
   omega
  have hsj:=hs j
  have hsj1:=hs (j+1)
  rw[bH _ default hj,pj]at hsj1
  have hv:=q1.le30 (by omega) (x.parts.getD j default).farm
  have ebk:dz .registerTitle .int s.1 (RT x.right (x.parts.getD j default).farm)=mG (x.parts.take j) n (bk m x.right) (x.parts.getD j default).farm:=by
   have:=congrFun (congrFun j2 x.right) (x.parts.getD j default).farm
   simpa[bk]using this
  refine⟨_,rfl,?_,?_,?_⟩
  ·exact(oS _ _ _ j1).1
  ·simp only[elo]
   rw[ebk,aT (by omega) (by omega),AB,j2]
   funext r
   by_cases h:r=x.right
   ·subst h;simp only[if_true];rw[bH _ default hj,zi]
   ·simp only[if_neg h]
  ·simp only[elo,j3]
   rw[aT (by omega) (by omega),bH _ default hj,pj];omega)
 rw[Nat.zero_add,List.take_length]at a2 a3
 simp only at a1 a2 a3
 have hlf:0≤lf∧lf≤(x.parts.length:Int):=by omega
 obtain⟨q1,q2⟩:=na h0 x.parts _ _ hx.fit hg
 have tk:(x.parts.take lf.toNat).drop 0=x.parts.take lf.toNat:=by simp
 have tkl:(x.parts.take lf.toNat).length=lf.toNat:=by rw[List.length_take];omega
 obtain⟨m2,e2,b1,b2⟩:=iO (step:=eQ x (m1,lf)) (fun k (s:BM) =>(gQ s).Nodup∧(bk s=fun r=>if r=x.right then kE ((x.parts.take lf.toNat).take k) (mG x.parts n (bk m r))else bk m r)) lf.toNat 0 m1 ⟨a1,by rw[a2];funext r;by_cases h:r=x.right <;>simp[h,kE]⟩ (fun j s _ hj ⟨j1,j2⟩ =>by
  rw[Nat.zero_add]at hj
  have hj':j< (x.parts.take lf.toNat).length:=by omega
  have hm:(x.parts.take lf.toNat).getD j default∈x.parts.take lf.toNat:=by rw[eD _ _ hj'];exact List.getElem_mem _
  obtain⟨r1,r2⟩:=pl ((x.parts.take lf.toNat).take j) _ _ ((hx.fit.take _).take _) q1
  have hlen:((x.parts.take lf.toNat).take j).length=j:=by rw[List.length_take];omega
  have hv:=r1.le30 (by omega) ((x.parts.take lf.toNat).getD j default).farm
  have ebk:dz .registerTitle .int s (RT x.right ((x.parts.take lf.toNat).getD j default).farm)=kE ((x.parts.take lf.toNat).take j) (mG x.parts n (bk m x.right)) ((x.parts.take lf.toNat).getD j default).farm:=by
   have:=congrFun (congrFun j2 x.right) ((x.parts.take lf.toNat).getD j default).farm
   simpa[bk]using this
  refine⟨_,rfl,?_,?_⟩
  ·exact(oS _ _ _ j1).1
  ·simp only[tk]
   rw[ebk,aT (by omega) (by omega),AB,j2]
   funext r
   by_cases h:r=x.right
   ·subst h;simp only[if_true];rw[bH _ default hj',xJ]
   ·simp only[if_neg h])
 rw[Nat.zero_add]at b2
 have e2':ak (eQ x (m1,lf)) ((x.parts.take lf.toNat).drop 0).length 0 m1=.inr m2:=by rw[tk,tkl];exact e2
 have eR:cp x n m=m2:=by
  unfold cp
  rw[e1]
  simp only[e2']
 refine⟨fun _ z hz=>?_,?_,?_⟩
 ·rw[e1]at hz;cases hz;exact⟨by omega,hlf.1,hlf.2⟩
 ·rw[eR];exact b1
 ·rw[eR,b2]
  funext r
  by_cases h:r=x.right
  ·simp only[if_pos h]
   unfold uE
   rw[←a3,List.take_take,Nat.min_self]
  ·simp only[if_neg h]
end Go.Sx
end
section
namespace Go.Sx
open Go.Proofs
def h_ (x:Deed)(B:Int→Int→Int):Int→Int→Int:=fun r=>if r=x.right then sq x (B r)else B r
def j5 (ds:List Deed)(B:Int→Int→Int):Int→Int→Int:=ds.foldl (fun B x=>h_ x B) B
def qC:List Deed→(Int→Int→Int)→List Int
 | [],_=>[]
 |x::r,B=>(if B x.right x.since=0 then [x.no]else [])++qC r (h_ x B)
structure MapOk (d:District)(m:BM):Prop where
 nodup:(gQ m).Nodup
 good:∀ r,∃ L,L≤1073741824∧Good d.farms.length L (bk m r)
theorem MapOk.le {d:District}{m:BM}(h:MapOk d m)(r f:Int):0≤bk m r f∧bk m r f≤1073741824:=by
 obtain⟨L,h1,h2⟩:=h.good r
 have:=h2.nn f
 by_cases e:bk m r f=0
 ·omega
 ·obtain⟨a,b⟩:=h2.sup f e
  have:=xC h2.nn _ f a b
  have:=h2.tot
  omega
theorem Lu {d:District}{ds:List Deed}{x:Deed}(hx:Fit d x)(hk:x.kind≠4){e:List Int}{m:BM}(hm:MapOk d m)(he:(e.length+1)*8≤gJ):
  dc ds x (e,m)∧∃ m',bN ds x (e,m)=.inr (e++(if bk m x.right x.since=0 then [x.no]else []),m')∧MapOk d m'∧bk m'=h_ x (bk m):=by
 obtain⟨r0,r1,r2,s0,s1⟩:=hx.held hk
 have hv:=hm.le x.right x.since
 have ebk:dz .registerTitle .int m (RT x.right x.since)=bk m x.right x.since:=rfl
 have hdel:=uD (RT x.right x.since) m hm.nodup
 have hstep:∀ m':BM,(gQ m').Nodup→bk m'=h_ x (bk m)→MapOk d m':=fun m' hN hb=>by
  refine⟨hN,fun r=>?_⟩
  obtain⟨L,h1,h2⟩:=hm.good r
  refine⟨L,h1,?_⟩
  rw[hb]
  show Good _ _ (if r=x.right then sq x (bk m r)else bk m r)
  split
  ·exact(Cj hx hk h2).1
  ·exact h2
 have hlen:(e++[x.no]).length=e.length+1:=by simp
 unfold dc bN
 simp only[ebk,hlen]
 by_cases hn:bk m x.right x.since=0
 ·have b0:(bk m x.right x.since==0)=true:=by simp[hn]
  rw[b0,if_pos hn]
  refine⟨⟨fun _=>he,(fun h=>by cases h)⟩,m,rfl,hm,?_⟩
  funext r
  unfold h_
  split
  ·rename_i h;subst h;unfold sq;rw[if_pos hn]
  ·rfl
 ·have b0:(bk m x.right x.since==0)=false:=by simpa using hn
  rw[b0,if_neg hn,List.append_nil]
  simp only[cond_false]
  have edel:=Oy m hm.nodup x.right x.since
  have kdel:(gQ (lP .registerTitle .int m (RT x.right x.since))).Nodup:=hdel.1
  have egood:Good d.farms.length (1073741824 - bk m x.right x.since) (bk (lP .registerTitle .int m (RT x.right x.since)) x.right):=by
   obtain⟨L,h1,h2⟩:=hm.good x.right
   rw[edel]
   simp only[if_true]
   exact h2.put s0 s1 (Int.le_refl _) (by have:=h2.tot;omega)
  by_cases k1:x.kind=1
  ·have b1:(x.kind==1)=true:=by simp[k1]
   rw[b1]
   simp only[cond_true]
   obtain⟨a,b,c⟩:=hx.pass k1
   have hto:=egood.le30 (by omega) x.to
   have e2:dz .registerTitle .int (lP .registerTitle .int m (RT x.right x.since)) (RT x.right x.to)=fI (bk m x.right) x.since 0 x.to:=by
    have:=congrFun (congrFun edel x.right) x.to
    simpa[bk]using this
   have hto':0≤fI (bk m x.right) x.since 0 x.to∧fI (bk m x.right) x.since 0 x.to≤2147483648:=by
    rw[edel]at hto;simpa using hto
   refine⟨⟨(fun h=>by cases h),(fun _ h=>by cases h)⟩,_,rfl,?_⟩
   have hb:bk (db x (bk m x.right x.since) (lP .registerTitle .int m (RT x.right x.since)))=h_ x (bk m):=by
    unfold db
    rw[e2,aT (by omega) (by omega),AB,edel]
    funext r
    unfold h_
    by_cases h:r=x.right
    ·subst h
     simp only[if_true]
     unfold sq
     rw[if_neg hn,if_pos k1]
    ·simp only[if_neg h]
   exact⟨hstep _ (by unfold db;exact(oS _ _ _ kdel).1) hb,hb⟩
  ·have b1:(x.kind==1)=false:=by simpa using k1
   rw[b1]
   simp only[cond_false]
   by_cases k2:x.kind=2
   ·have b2:(x.kind==2)=true:=by simp[k2]
    rw[b2]
    simp only[cond_true]
    obtain⟨p1,p2,p3⟩:=Gr (hx.split k2) hv.1 hv.2 kdel (M:=1073741824 - bk m x.right x.since) (by omega) egood
    refine⟨⟨(fun h=>by cases h),fun _ _=>⟨fun _=>p1,(fun h=>by cases h)⟩⟩,_,rfl,?_⟩
    have hb:bk (cp x (bk m x.right x.since) (lP .registerTitle .int m (RT x.right x.since)))=h_ x (bk m):=by
     rw[p3,edel]
     funext r
     unfold h_
     by_cases h:r=x.right
     ·subst h
      simp only[if_true]
      unfold sq
      rw[if_neg hn,if_neg k1,if_pos k2]
     ·simp only[if_neg h]
    exact⟨hstep _ p2 hb,hb⟩
   ·have b2:(x.kind==2)=false:=by simpa using k2
    rw[b2]
    simp only[cond_false]
    have k3:x.kind=3:=by rcases hx.kind with h|h|h|h <;>omega
    have b3:(x.kind==3)=true:=by simp[k3]
    rw[b3]
    simp only[cond_true]
    refine⟨⟨(fun h=>by cases h),fun _ _=>⟨(fun h=>by cases h),(fun _ h=>by cases h)⟩⟩,_,rfl,?_⟩
    have hb:bk (lP .registerTitle .int m (RT x.right x.since))=h_ x (bk m):=by
     rw[edel]
     funext r
     unfold h_
     by_cases h:r=x.right
     ·subst h
      simp only[if_true]
      unfold sq
      rw[if_neg hn,if_neg k1,if_neg k2]
     ·simp only[if_neg h]
    exact⟨hstep _ kdel hb,hb⟩
theorem zj {d:District}(ds:List Deed):∀ (l:List Deed),(∀ x∈l,Fit d x∧x.kind≠4)→∀ (e:List Int) (m:BM),MapOk d m→(e.length+l.length)*8≤gJ→
  okL (bN ds) (dc ds) l (e,m)∧∃ m',fN (bN ds) l (e,m)=.inr (e++qC l (bk m),m')∧MapOk d m'∧bk m'=j5 l (bk m)
 | [],_,e,m,hm,_=>⟨trivial,m,by simp[fN,qC],hm,rfl⟩
 |x::l,h,e,m,hm,hB=>by
  simp only[List.length_cons]at hB
  obtain⟨h1,h2⟩:=h x List.mem_cons_self
  obtain⟨q1,m1,q2,q3,q4⟩:=Lu (ds:=ds) h1 h2 (e:=e) hm (by omega)
  have hlen:(e++(if bk m x.right x.since=0 then [x.no]else [])).length≤e.length+1:=by split <;>simp
  obtain⟨r1,m2,r2,r3,r4⟩:=zj ds l (fun y hy=>h y (List.mem_cons_of_mem _ hy)) (e++(if bk m x.right x.since=0 then [x.no]else [])) m1 q3 (by omega)
  refine⟨⟨q1,fun s hs=>by rw[q2]at hs;cases hs;exact r1⟩,m2,?_,r3,?_⟩
  ·simp only[fN,q2]
   rw[r2,q4,List.append_assoc];rfl
  ·rw[r4,q4];rfl
def B0 (d:District):Int→Int→Int:=fun r f=>if 0≤r∧r< (d.rights.length:Int)∧(d.rights.getD r.toNat default).kind=1∧(d.rights.getD r.toNat default).farm=f then(d.rights.getD r.toNat default).litres else 0
structure TakeOk (d:District)(x:Right):Prop where
 f0:0≤x.farm
 f1:x.farm< (d.farms.length:Int)
 l0:1≤x.litres
 l1:x.litres≤1073741824
theorem tF {d:District}(h:aV d=0){k:Nat}(hk:k<d.rights.length)(ht:(d.rights.getD k default).kind=1):TakeOk d (d.rights.getD k default):=by
 have:=((u3 d).1 h).2.2.2.2.2.2.2.1 k hk
 unfold c6 at this
 rw[fh]at this
 have h2:fC d (d.rights.getD k default)=true:=by
  cases h3:fC d (d.rights.getD k default)with
  |true=>rfl
  |false=>rw[h3]at this;cases this
 unfold fC at h2
 cases h4:((!(bU (d.rights.getD k default).farm (d.farms.length:Int))) ||(!(bU (d.rights.getD k default).reach (d.reaches.length:Int)))) ||(!(ar ([0,(d.rights.getD k default).since,(d.rights.getD k default).to,(IntKind.i64.wrap (d.hours - 1))])))with
 |true=>rw[h4]at h2;cases h2
 |false=>
  rw[h4,show((d.rights.getD k default).kind==1)=true by rw[ht];rfl]at h2
  simp only[cond_true,cond_false,Bool.and_eq_true]at h2
  simp only[Bool.or_eq_false_iff,Bool.not_eq_false']at h4
  have h5:=h4.1.1
  unfold bU at h5
  simp only[Bool.and_eq_true,decide_eq_true_eq]at h5
  have h6:=vK h2.1.2
  exact⟨by omega,by omega,by omega,by omega⟩
theorem Oz {d:District}(h:aV d=0)(r:Int):∃ L,L≤1073741824∧Good d.farms.length L (B0 d r):=by
 by_cases hr:0≤r∧r< (d.rights.length:Int)∧(d.rights.getD r.toNat default).kind=1
 ·have ht:=tF h (k:=r.toNat) (by omega) hr.2.2
  have hl:=ht.l0
  refine⟨(d.rights.getD r.toNat default).litres,ht.l1,?_⟩
  have e:B0 d r=fI (fun _=>0) (d.rights.getD r.toNat default).farm (d.rights.getD r.toNat default).litres:=by
   funext f
   unfold B0 fI
   by_cases hf:f=(d.rights.getD r.toNat default).farm
   ·rw[if_pos ⟨hr.1,hr.2.1,hr.2.2,hf.symm⟩,if_pos hf]
   ·rw[if_neg (fun h=>hf h.2.2.2.symm),if_neg hf]
  have t0:∀ n,tot n (fun _=>0)=0:=fun n=>by
   induction n with
   |zero=>rfl
   |succ n ih=>unfold tot;rw[ih];rfl
  rw[e]
  exact Good.put (L:=0) ⟨fun _=>Int.le_refl _,fun f hf=>absurd rfl hf,by rw[t0];exact Int.le_refl _⟩ ht.f0 ht.f1 (by omega) (by rw[t0];omega)
 ·refine⟨0,by omega,?_⟩
  have e:B0 d r=fun _=>0:=by
   funext f
   unfold B0
   rw[if_neg (fun h=>hr ⟨h.1,h.2.1,h.2.2.1⟩)]
  have t0:∀ n,tot n (fun _=>0)=0:=fun n=>by
   induction n with
   |zero=>rfl
   |succ n ih=>unfold tot;rw[ih];rfl
  rw[e]
  exact⟨fun _=>Int.le_refl _,fun f hf=>absurd rfl hf,by rw[t0];exact Int.le_refl _⟩
theorem IX {d:District}(h:aV d=0):∃ m,ak (bY d) d.rights.length 0 []=.inr m∧MapOk d m∧bk m=B0 d:=by
 obtain⟨m,h1,h2,h3⟩:=iO (step:=bY d) (fun k (m:BM) =>(gQ m).Nodup∧bk m=fun r f=>if r< (k:Int)then B0 d r f else 0) d.rights.length 0 ([]:BM) ⟨by simp[gQ],by
   funext r f
   by_cases hr:r< ((0:Nat):Int)
   ·rw[if_pos hr];unfold B0 bk;rw[if_neg (by omega)];rfl
   ·rw[if_neg hr];rfl⟩ (fun j m _ hj ⟨j1,j2⟩ =>by
  rw[Nat.zero_add]at hj
  unfold bY
  by_cases hk:(d.rights.getD j default).kind=1
  ·rw[show((d.rights.getD j default).kind==1)=true by rw[hk];rfl]
   refine⟨_,rfl,(oS _ _ _ j1).1,?_⟩
   rw[AB,j2]
   funext r f
   by_cases hr:r=(j:Int)
   ·subst hr
    simp only[if_true]
    unfold fI B0
    dsimp only
    rw[if_pos (by omega:(j:Int) < ((j+1:Nat):Int)),Int.toNat_natCast]
    by_cases hf:f=(d.rights.getD j default).farm
    ·rw[if_pos hf,if_pos ⟨by omega,by omega,hk,hf.symm⟩]
    ·rw[if_neg hf,if_neg (by omega),if_neg (fun h=>hf h.2.2.2.symm)]
   ·simp only[if_neg hr]
    by_cases h2:r< (j:Int)
    ·rw[if_pos h2,if_pos (by omega)]
    ·rw[if_neg h2,if_neg (by omega)]
  ·rw[show((d.rights.getD j default).kind==1)=false by simpa using hk]
   refine⟨_,rfl,j1,?_⟩
   rw[j2]
   funext r f
   by_cases hr:r=(j:Int)
   ·subst hr
    rw[if_neg (by omega),if_pos (by omega)]
    unfold B0
    rw[if_neg (fun h=>hk (by rw[Int.toNat_natCast]at h;exact h.2.2.1))]
   ·by_cases h2:r< (j:Int)
    ·rw[if_pos h2,if_pos (by omega)]
    ·rw[if_neg h2,if_neg (by omega)])
 have e:bk m=B0 d:=by
  rw[h3]
  funext r f
  split
  ·rfl
  ·unfold B0;rw[if_neg (by omega)]
 refine⟨m,h1,⟨h2,fun r=>?_⟩,e⟩
 rw[e];exact Oz h r
theorem zk {d:District}(h:aV d=0){ds:List Deed}(hd:∀ x∈ds,Fit d x∧x.kind≠4)(hl:ds.length≤512):
  fE d ds∧∃ m,cO d ds=(m,qx (qC ds (B0 d)))∧MapOk d m∧bk m=j5 ds (B0 d):=by
 obtain⟨m0,e0,o0,b0⟩:=IX h
 obtain⟨q1,m1,q2,q3,q4⟩:=zj (d:=d) ds ds hd [] m0 o0 (by simp only[List.length_nil];unfold gJ;omega)
 rw[List.nil_append]at q2
 rw[b0]at q2 q4
 refine⟨fun _ z hz=>?_,m1,?_,q3,q4⟩
 ·rw[e0]at hz;cases hz
  refine⟨IM ds,?_⟩
  rw[qW];exact q1
 ·unfold cO
  rw[e0,qW]
  simp only[q2]
end Go.Sx
end
section
namespace Go.Proofs
open Go.Shelf
def Tryz.sortLh_ren:Go.Shelf.Ren:=⟨fun|6=>50|15=>81|14=>80|28=>112|29=>113|20=>104|21=>105|22=>106|23=>107|24=>108|25=>109|26=>110|27=>111|46=>136|47=>137|48=>138|49=>139|50=>140|57=>149|n=>n,fun|22=>44|24=>67|25=>100|3=>3|39=>116|0=>0|53=>162|55=>164|4=>4|46=>156|45=>155|50=>78|5=>5|9=>9|66=>184|70=>187|76=>195|77=>192|n=>n,fun|n=>n⟩
theorem Tryz.sortLh:Go.Proofs.SlLaysF0.n6 Tryz.prog Tryz.sortLh_ren:= {
 mixed:=by kernel_rfl
 f6:=⟨Tryz.f50.name,by decide,Tryz.func50.trans (congrArg some (by kernel_rfl))⟩
 f14:=⟨Tryz.f80.name,by decide,Tryz.func80.trans (congrArg some (by kernel_rfl))⟩
 f15:=Tryz.func81.trans (congrArg some (by kernel_rfl))
 f20:=⟨Tryz.f104.name,by decide,Tryz.func104.trans (congrArg some (by kernel_rfl))⟩
 f21:=⟨Tryz.f105.name,by decide,Tryz.func105.trans (congrArg some (by kernel_rfl))⟩
 f22:=⟨Tryz.f106.name,by decide,Tryz.func106.trans (congrArg some (by kernel_rfl))⟩
 f23:=⟨Tryz.f107.name,by decide,Tryz.func107.trans (congrArg some (by kernel_rfl))⟩
 f24:=⟨Tryz.f108.name,by decide,Tryz.func108.trans (congrArg some (by kernel_rfl))⟩
 f25:=⟨Tryz.f109.name,by decide,Tryz.func109.trans (congrArg some (by kernel_rfl))⟩
 f26:=⟨Tryz.f110.name,by decide,Tryz.func110.trans (congrArg some (by kernel_rfl))⟩
 f27:=⟨Tryz.f111.name,by decide,Tryz.func111.trans (congrArg some (by kernel_rfl))⟩
 f28:=Tryz.func112.trans (congrArg some (by kernel_rfl))
 f29:=Tryz.func113.trans (congrArg some (by kernel_rfl))
 f46:=⟨Tryz.f136.name,by decide,Tryz.func136.trans (congrArg some (by kernel_rfl))⟩
 f47:=Tryz.func137.trans (congrArg some (by kernel_rfl))
 f48:=Tryz.func138.trans (congrArg some (by kernel_rfl))
 f49:=⟨Tryz.f139.name,by decide,Tryz.func139.trans (congrArg some (by kernel_rfl))⟩
 f50:=⟨Tryz.f140.name,by decide,Tryz.func140.trans (congrArg some (by kernel_rfl))⟩
 f57:=⟨Tryz.f149.name,by decide,Tryz.func149.trans (congrArg some (by kernel_rfl))⟩
 t0:=Tryz.underlying0
 a0:=Tryz.isAgg0
 z0:=Tryz.sizeOf0
 v0:=Tryz.zeroValue0
 t3:=Tryz.underlying3
 a3:=Tryz.isAgg3
 z3:=Tryz.sizeOf3
 v3:=Tryz.zeroValue3
 t4:=Tryz.underlying4
 a4:=Tryz.isAgg4
 z4:=Tryz.sizeOf4
 v4:=Tryz.zeroValue4
 t5:=Tryz.underlying5
 a5:=Tryz.isAgg5
 z5:=Tryz.sizeOf5
 v5:=Tryz.zeroValue5
 t9:=Tryz.underlying9
 a9:=Tryz.isAgg9
 z9:=Tryz.sizeOf9
 v9:=Tryz.zeroValue9
 t22:=Tryz.underlying44
 a22:=Tryz.isAgg44
 z22:=Tryz.sizeOf44
 v22:=Tryz.zeroValue44
 t25:=Tryz.underlying100
 a25:=Tryz.isAgg100
 z25:=Tryz.sizeOf100
 v25:=Tryz.zeroValue100
 t39:=Tryz.underlying116
 a39:=Tryz.isAgg116
 z39:=Tryz.sizeOf116
 v39:=Tryz.zeroValue116
 t45:=Tryz.underlying155
 a45:=Tryz.isAgg155
 z45:=Tryz.sizeOf155
 v45:=Tryz.zeroValue155
 t46:=Tryz.underlying156
 a46:=Tryz.isAgg156
 z46:=Tryz.sizeOf156
 v46:=Tryz.zeroValue156
 t50:=Tryz.underlying78
 a50:=Tryz.isAgg78
 z50:=Tryz.sizeOf78
 v50:=Tryz.zeroValue78
 t53:=Tryz.underlying162
 a53:=Tryz.isAgg162
 z53:=Tryz.sizeOf162
 v53:=Tryz.zeroValue162
 t55:=Tryz.underlying164
 a55:=Tryz.isAgg164
 z55:=Tryz.sizeOf164
 v55:=Tryz.zeroValue164
 t66:=Tryz.underlying184
 a66:=Tryz.isAgg184
 z66:=Tryz.sizeOf184
 v66:=Tryz.zeroValue184
 t70:=Tryz.underlying187
 a70:=Tryz.isAgg187
 z70:=Tryz.sizeOf187
 v70:=Tryz.zeroValue187
 t76:=Tryz.underlying195
 a76:=Tryz.isAgg195
 z76:=Tryz.sizeOf195
 v76:=Tryz.zeroValue195
 t77:=Tryz.underlying192
 a77:=Tryz.isAgg192
 z77:=Tryz.sizeOf192
 v77:=Tryz.zeroValue192}
end Go.Proofs
end
section
namespace Go.Sx
open Go.RowKit Go.Shelf Go.Lib Go.Sort Go.Proofs
set_option maxRecDepth 100000
noncomputable def qD:List SV→List Ob→Option HCon:=nB .holding 51 [] bX
@[go_sem] theorem IY {l0:List Holding}:qD [.os 0,.fn 51 [] []] [.row .holding l0]=some (eM (apart bX l0) (.tup []) [.row .holding (srt bX l0)]):=yh
theorem yl:xA .holding:=fun x s hs=>by
 simp only[cellsOf,List.mem_cons,List.not_mem_nil,or_false]at hs
 rcases hs with rfl|rfl|rfl|rfl
 all_goals exact⟨_,rfl,rfl⟩
theorem va (x y:Holding):px (.agg (cellsOf .holding x):: .agg (cellsOf .holding y)::[])=some (.det True (.v (.int .i64 (bX x y)))):=by
 simp only[go_sem,Nat.reduceBEq]
theorem AC:FnOkO Tryz.prog 50 qD:=
 Cb (k:=.holding) Tryz.sortLh (fun w=>by kernel_rfl) (fun w=>by kernel_rfl) yl (by decide) (g:=51) (caps:=[]) uu (cf:=bX) va uZ (fun s hs=>by cases hs) ⟨default,default,va _ _⟩
end Go.Sx
end
section
namespace Go.Sx
open Go.Proofs
set_option maxRecDepth 100000
set_option linter.unusedSimpArgs false
theorem zl {p:Prop}(h:p:=by(first|done|(repeat' (first|with_reducible refine And.intro ?_ ?_|((with_reducible show _≠_);first|assumption|omega|(simp_all [aX,bu];done) |grind) |with_reducible intro _)) <;>(first|done|with_reducible exact Empty.elim ‹Empty› |with_reducible assumption|rfl|omega|assumption|decide|exact fk [0,1,2,3,7] |exact fk [0,1,2,3,4] |exact czl|(simp only[*,cond_true,cond_false,Bool.not_true,Bool.not_false,go_sem,Nat.reduceBEq,Nat.reduceLeDiff,Nat.reduceLT,decide_true,Nat.reduceAdd,Nat.reduceSub,Nat.reduceMul,Int.reduceLE,Int.reduceLT,Int.reduceToNat,Int.reduceNeg,reduceCtorEq];(repeat' (first|with_reducible refine And.intro ?_ ?_|((with_reducible show _≠_);first|assumption|omega|(simp_all [aX,bu];done) |grind) |with_reducible intro _)) <;>(first|done|assumption|rfl|omega|decide|exact fk [0,1,2,3,7] |exact fk [0,1,2,3,4] |(simp_all [aX,bu];done))) |(simp_all [okI,aX,bu];done) |(simp_all [aX,bu];(first|done|exact fk2 [0,1,2,3,7] |exact fk2 [0,1,2,3,4])) |exact fk2 [0,1,2,3,7] |exact fk2 [0,1,2,3,4]))):p:=h
theorem clQ {p:Prop}(h:p:=by((repeat' (first|with_reducible refine And.intro ?_ ?_|with_reducible intro _)) <;>(first|done|with_reducible exact Empty.elim ‹Empty› |with_reducible assumption|rfl|((try simp only[Am,If]at *);first|with_reducible assumption|(simp_all only[aX,bu];done) |grind|(simp_all only[aX,bu];grind))))):p:=h
@[go_sem] def cP (a0:District)(a1:List Deed)(a2:Int)(a3:Int)(k_0:RegisterTitle×Int)(s_0:List Holding):Empty⊕(List Holding):=(bif(decide (k_0.2 > 0))then .inr (s_0++([({ right:=k_0.1.right,farm:=k_0.1.farm,litres:=k_0.2,rank:=(a0.rights.getD (Int.toNat k_0.1.right) (default:Right)).rank}:Holding)]))else .inr s_0)
def iP (a0:District)(a1:List Deed)(a2:Int)(a3:Int)(k_0:RegisterTitle×Int)(s_0:List Holding):Prop:=((decide (k_0.2 > 0))=true→((0≤k_0.1.right∧k_0.1.right< (a0.rights.length:Int))∧((s_0++([({ right:=k_0.1.right,farm:=k_0.1.farm,litres:=k_0.2,rank:=(a0.rights.getD (Int.toNat k_0.1.right) (default:Right)).rank}:Holding)])).length*32≤gJ)))
def bS (a0:District)(a1:List Deed)(a2:Int)(a3:Int):List Holding×Int:=(bif((aq a0 a1) !=0)then([],(aq a0 a1))else(bif((!(an a2 0 (IntKind.i64.wrap (a0.hours - 1)))) ||(!(an a3 0 1048576)))then([],1)else(match fN (cP a0 a1 a2 a3) ((cO a0 (ce a1 a2 a3)).1) ([])with| .inl x=>x.elim| .inr s_0=>((srt bX s_0),0))))
def eX (a0:District)(a1:List Deed)(a2:Int)(a3:Int):Prop:=((dM a0 a1)∧((((aq a0 a1) !=0)=true→(([],(aq a0 a1))=(bS a0 a1 a2 a3)))∧(((aq a0 a1) !=0)=false→((((!(an a2 0 (IntKind.i64.wrap (a0.hours - 1)))) ||(!(an a3 0 1048576)))=true→(([],1)=(bS a0 a1 a2 a3)))∧(((!(an a2 0 (IntKind.i64.wrap (a0.hours - 1)))) ||(!(an a3 0 1048576)))=false→((dY a1 a2 a3)∧((fE a0 (ce a1 a2 a3))∧(∀ L_0,L_0.Perm ((cO a0 (ce a1 a2 a3)).1)→(okL (cP a0 a1 a2 a3) (iP a0 a1 a2 a3) L_0 ([])∧(∀ s_0,fN (cP a0 a1 a2 a3) L_0 ([])=.inr s_0→((apart bX s_0)∧(((srt bX s_0),0)=(bS a0 a1 a2 a3)))))))))))))
@[go_sem] def oe:List SV→Option Con:=(pD .district fun a0=>(pR .deed fun a1=>(pI fun a2=>(pI fun a3=>(pE (.det (eX a0 a1 a2 a3) (.tup [.nw .holding ((bS a0 a1 a2 a3).1),.v (.int .i64 ((bS a0 a1 a2 a3).2))])))))))
theorem qE:FnOk Tryz.prog 18 oe:=by
 have hG:ConsOk Tryz.prog (mkG [(15,fun l=>fV (cT [.st .district,.sl .deed] l)),(47,jo),(48,fun l=>kD (cT [.st .district,.o] l)),(49,fun l=>i6 (cT [.sl .deed,.o,.o] l))] [(50,qD)]):=ay (cgc (g_.norm [.st .district,.sl .deed]) (cgc ku (cgc (nC.norm [.st .district,.o]) (cgc (ml.norm [.sl .deed,.o,.o]) cg0)))) (cgc AC cg0)
 refine n_ [(.tmp 8,.holding)] mixed am hG (fn:=Tryz.f18) (c:=ae Tryz.f18) (by kernel_rfl) (by kernel_rfl) (by kernel_rfl) (by kernel_rfl) (bb fun a0=>(dw fun a1=>(co fun a2=>(co fun a3=>(aI (fun hp=>?_))))))
 dsimp only[aG]at hp
 unfold eX at hp
 refine⟨Nat.le_of_ble_eq_true rfl,(fun id st=>bif Nat.beq id 0 then some (LCP (τ:=RegisterTitle×Int) (ρ:=Empty) (σ:=(List Holding)) 4 [.slot 8 (.row .holding ([]))] [0,1,2,3,4] (fun left_0 cur_0 s_0=>⟨[(4,.ptr 0 0),(8,.os 4),(41,.ptr 3 0)],[.cells (cellsOf .district a0),.mp .registerTitle .int ((cO a0 (ce a1 a2 a3)).1) (some (3,none)),.dead,.mi (some 1) (((cO a0 (ce a1 a2 a3)).1).length) left_0 cur_0,.row .holding s_0]⟩) (cP a0 a1 a2 a3) (iP a0 a1 a2 a3) ((cO a0 (ce a1 a2 a3)).1) ([]) ((·.elim)) ((·.elim)) (fun s_0=>⟨[(8,.os 4)],[.dead,.dead,.dead,.dead,.row .holding s_0]⟩) st)else none),?_,?_⟩
 ·unfold ae Tryz.f18
  simp only[al,true_and,and_true]
  ·refine Ie (dE .registerTitle,dE .int) 3 mixed am hG (by kernel_rfl) (fun _=>rfl) fun left_0 cur_0 s_0 hp0=>⟨L0,ah _,?_⟩
   ·by_cases hl0:left_0=[]
    ·subst hl0
     simp only[go_sem,Nat.reduceBEq,Nat.reduceLeDiff,Nat.reduceLT,decide_true,Nat.reduceAdd,Nat.reduceSub,Nat.reduceMul,Int.reduceLE,Int.reduceLT,Int.reduceToNat,Int.reduceNeg,reduceCtorEq,List.not_mem_nil]
     all_goals exact zl
    ·simp only[go_sem,Nat.reduceBEq,Nat.reduceLeDiff,Nat.reduceLT,decide_true,Nat.reduceAdd,Nat.reduceSub,Nat.reduceMul,Int.reduceLE,Int.reduceLT,Int.reduceToNat,Int.reduceNeg,reduceCtorEq,hl0]
     intro j hj0
     obtain⟨hlt0,hq0⟩:=hp0 j hj0
     unfold iP at hq0
     all_goals exact zl
 ·unfold ae Tryz.f18
  simp only[go_sem,Nat.reduceBEq,Nat.reduceLeDiff,Nat.reduceLT,decide_true,Nat.reduceAdd,Nat.reduceSub,Nat.reduceMul,Int.reduceLE,Int.reduceLT,Int.reduceToNat,Int.reduceNeg,reduceCtorEq]
  all_goals exact clQ
def df (d:District)(l_:List Deed)(known:Int):List Int×Int:=(bif((aq d l_) !=0)then([],(aq d l_))else(bif(!(an known 0 1048576))then([],1)else((cO d (ce l_ 4096 known)).2,0)))
def fY (d:District)(l_:List Deed)(known:Int):Prop:=((dM d l_)∧(((aq d l_) !=0)=false→((!(an known 0 1048576))=false→((dY l_ 4096 known)∧(fE d (ce l_ 4096 known))))))
@[go_sem] def lm:List SV→Option Con:=(pD .district fun d=>(pR .deed fun l_=>(pI fun known=>(pE (.det (fY d l_ known) (.tup [.nw .int ((df d l_ known).1),.v (.int .i64 ((df d l_ known).2))]))))))
theorem nZ:FnOk Tryz.prog 20 lm:=by
 have hG:ConsOk Tryz.prog (mkG [(15,fun l=>fV (cT [.st .district,.sl .deed] l)),(47,jo),(48,fun l=>kD (cT [.st .district,.o] l)),(49,fun l=>i6 (cT [.sl .deed,.o,.o] l))] []):=ay (cgc (g_.norm [.st .district,.sl .deed]) (cgc ku (cgc (nC.norm [.st .district,.o]) (cgc (ml.norm [.sl .deed,.o,.o]) cg0)))) cg0
 refine n_ [(.tmp 6,.int)] mixed am hG (fn:=Tryz.f20) (c:=ae Tryz.f20) (by kernel_rfl) (by kernel_rfl) (by kernel_rfl) (by kernel_rfl) (bb fun d=>(dw fun l_=>(co fun known=>(aI (fun hp=>?_)))))
 dsimp only[aG]at hp
 unfold fY at hp
 refine⟨Nat.le_of_ble_eq_true rfl,L0,ah _,?_⟩
 ·unfold ae Tryz.f20
  try unfold df
  simp only[go_sem,Nat.reduceBEq,Nat.reduceLeDiff,Nat.reduceLT,decide_true,Nat.reduceAdd,Nat.reduceSub,Nat.reduceMul,Int.reduceLE,Int.reduceLT,Int.reduceToNat,Int.reduceNeg,reduceCtorEq]
  all_goals exact cl
end Go.Sx
end
section
namespace Go.Sx
open Go.Proofs
def fM (d:District)(l:List Deed)(hour known:Int):Int→Int→Int:=j5 (stS (ph l hour known)) (B0 d)
def pF (d:District)(B:Int→Int→Int)(r f:Nat):Option Holding:=if 0<B r f then some { right:=(r:Int),farm:=(f:Int),litres:=B r f,rank:=(d.rights.getD r default).rank}else none
def gR (d:District)(B:Int→Int→Int)(r:Nat):List Holding:=(List.range d.farms.length).filterMap (pF d B r)
def nE (d:District)(B:Int→Int→Int):List Holding:=(List.range d.rights.length).flatMap (gR d B)
theorem kF {d:District}{B:Int→Int→Int}{r:Nat}{x:Holding}:x∈gR d B r↔∃ f:Nat,f<d.farms.length∧0<B r f∧x= { right:=(r:Int),farm:=(f:Int),litres:=B r f,rank:=(d.rights.getD r default).rank}:=by
 unfold gR pF
 rw[List.mem_filterMap]
 constructor
 ·rintro⟨f,hf,h⟩
  rw[List.mem_range]at hf
  split at h
  ·rename_i h0
   exact⟨f,hf,h0,(Option.some.inj h).symm⟩
  ·cases h
 ·rintro⟨f,hf,h0,rfl⟩
  exact⟨f,List.mem_range.2 hf,by rw[if_pos h0]⟩
theorem uF {d:District}{B:Int→Int→Int}{x:Holding}:x∈nE d B↔0≤x.right∧x.right< (d.rights.length:Int)∧0≤x.farm∧x.farm< (d.farms.length:Int)∧0<x.litres∧x.litres=B x.right x.farm∧x.rank=(d.rights.getD x.right.toNat default).rank:=by
 unfold nE
 rw[List.mem_flatMap]
 constructor
 ·rintro⟨r,hr,hx⟩
  rw[List.mem_range]at hr
  obtain⟨f,hf,h0,rfl⟩:=kF.1 hx
  exact⟨by simp only;omega,by simp only;omega,by simp only;omega,by simp only;omega,h0,rfl,by simp only[Int.toNat_natCast]⟩
 ·rintro⟨a,b,c,e,h0,h1,h2⟩
  refine⟨x.right.toNat,List.mem_range.2 (by omega),kF.2 ⟨x.farm.toNat,by omega,?_,?_⟩⟩
  ·rw[Int.toNat_of_nonneg a,Int.toNat_of_nonneg c];omega
  ·rw[Int.toNat_of_nonneg a,Int.toNat_of_nonneg c,←h1,←h2]
theorem Ck:∀ n:Nat,(List.range n).Pairwise (· < ·):=fun n=>List.pairwise_lt_range
theorem tG (d:District)(B:Int→Int→Int):(nE d B).Pairwise hlt:=by
 unfold nE
 rw[List.pairwise_flatMap]
 refine⟨fun r _=>?_,?_⟩
 ·unfold gR
  rw[List.pairwise_filterMap]
  refine(Ck _).imp fun {a b} hab x hx y hy=>?_
  unfold pF at hx hy
  split at hx
  ·split at hy
   ·cases hx;cases hy
    exact Or.inr ⟨rfl,Or.inl (by show(a:Int) < (b:Int);omega)⟩
   ·cases hy
  ·cases hx
 ·refine(Ck _).imp fun {a b} hab x hx y hy=>?_
  obtain⟨f,_,_,rfl⟩:=kF.1 hx
  obtain⟨g,_,_,rfl⟩:=kF.1 hy
  simp only[hlt,uv,and_false,or_false];omega
theorem Lv (x:Holding):¬hlt x x:=by simp only[hlt,uv,and_false,or_false];omega
theorem Gs {l:List Holding}(h:l.Pairwise hlt):l.Nodup:=h.imp fun {a b} hab e=>by subst e;exact Lv _ hab
theorem tH {α β:Type}(f:α→List β)(k:Nat):∀ l:List α,(∀ a∈l,(f a).length≤k)→(l.flatMap f).length≤l.length*k
 | [],_=>by simp
 |a::l,h=>by
  have h1:=h a List.mem_cons_self
  have h2:=tH f k l fun b hb=>h b (List.mem_cons_of_mem _ hb)
  rw[List.flatMap_cons,List.length_append,List.length_cons,Nat.add_mul,Nat.one_mul];omega
theorem zm {d:District}(hr:Right1 d)(B:Int→Int→Int):(nE d B).length≤153600:=by
 have h1:=tH (gR d B) 600 (List.range d.rights.length) fun r _=>Nat.le_trans (List.length_filterMap_le _ _) (by rw[List.length_range];exact hr.farms)
 rw[List.length_range]at h1
 have:=hr.rights
 show((List.range d.rights.length).flatMap (gR d B)).length≤_
 have:d.rights.length*600≤256*600:=Nat.mul_le_mul_right _ this
 omega
def nF (d:District)(k:RegisterTitle×Int):Option Holding:=if 0<k.2 then some { right:=k.1.right,farm:=k.1.farm,litres:=k.2,rank:=(d.rights.getD (Int.toNat k.1.right) (default:Right)).rank}else none
theorem AD (d:District)(l:List Deed)(h n:Int):∀ (L:BM) (s:List Holding),fN (cP d l h n) L s=.inr (s++L.filterMap (nF d))
 | [],s=>by simp[fN]
 |k::L,s=>by
  by_cases hk:0<k.2
  ·have e:nF d k=some { right:=k.1.right,farm:=k.1.farm,litres:=k.2,rank:=(d.rights.getD (Int.toNat k.1.right) (default:Right)).rank}:=by unfold nF;rw[if_pos hk]
   rw[List.filterMap_cons_some e]
   simp only[fN]
   unfold cP
   rw[decide_eq_true (show k.2 > 0 from hk)]
   simp only[cond_true]
   have:=AD d l h n L (s++[{ right:=k.1.right,farm:=k.1.farm,litres:=k.2,rank:=(d.rights.getD (Int.toNat k.1.right) (default:Right)).rank}])
   unfold cP at this
   rw[this,List.append_assoc];rfl
  ·have e:nF d k=none:=by unfold nF;rw[if_neg hk]
   rw[List.filterMap_cons_none e]
   simp only[fN]
   unfold cP
   rw[decide_eq_false (show ¬k.2 > 0 from hk)]
   simp only[cond_false]
   have:=AD d l h n L s
   unfold cP at this
   exact this
theorem DZ (d:District)(l:List Deed)(h n:Int):∀ (L:BM) (s:List Holding),(∀ k∈L,0<k.2→0≤k.1.right∧k.1.right< (d.rights.length:Int))→(s.length+(L.filterMap (nF d)).length)*32≤gJ→okL (cP d l h n) (iP d l h n) L s
 | [],_,_,_=>trivial
 |k::L,s,hk,hB=>by
  by_cases h0:0<k.2
  ·have e:nF d k=some { right:=k.1.right,farm:=k.1.farm,litres:=k.2,rank:=(d.rights.getD (Int.toNat k.1.right) (default:Right)).rank}:=by unfold nF;rw[if_pos h0]
   rw[List.filterMap_cons_some e,List.length_cons]at hB
   refine⟨fun _=>⟨hk k List.mem_cons_self h0,by rw[List.length_append];simp only[List.length_cons,List.length_nil];omega⟩,fun s' hs=>?_⟩
   unfold cP at hs
   rw[decide_eq_true (show k.2 > 0 from h0)]at hs
   cases hs
   exact DZ d l h n L _ (fun q hq=>hk q (List.mem_cons_of_mem _ hq)) (by rw[List.length_append];simp only[List.length_cons,List.length_nil];omega)
  ·have e:nF d k=none:=by unfold nF;rw[if_neg h0]
   rw[List.filterMap_cons_none e]at hB
   refine⟨fun h=>absurd (of_decide_eq_true h) h0,fun s' hs=>?_⟩
   unfold cP at hs
   rw[decide_eq_false (show ¬k.2 > 0 from h0)]at hs
   cases hs
   exact DZ d l h n L _ (fun q hq=>hk q (List.mem_cons_of_mem _ hq)) hB
theorem E6 {d:District}{r:Int}(hr:¬ (0≤r∧r< (d.rights.length:Int))):∀ (ds:List Deed) (B:Int→Int→Int),(∀ x∈ds,Fit d x∧x.kind≠4)→j5 ds B r=B r
 | [],B,_=>rfl
 |x::ds,B,h=>by
  have h1:=h x List.mem_cons_self
  have h2:=h1.1.held h1.2
  show j5 ds (h_ x B) r=_
  rw[E6 hr ds _ fun y hy=>h y (List.mem_cons_of_mem _ hy)]
  unfold h_
  rw[if_neg (by omega)]
theorem qF {d:District}{l:List Deed}(h:Deeds d l)(hour known:Int):∀ x∈stS (ph l hour known),Fit d x∧x.kind≠4:=fun x hx=>by
 have hx:=EY.1 hx
 unfold ph at hx
 rw[List.mem_filter]at hx
 refine⟨h.fit x hx.1,fun e=>?_⟩
 have:=hx.2
 rw[e]at this
 simp at this
theorem vM (l:List Deed):(stS l).length=l.length:=(oR (oQ l)).symm
theorem E7 {α:Type}{a b:List α}(ha:a.Nodup)(hb:b.Nodup)(h:∀ x,x∈a↔x∈b):a.Perm b:=(List.perm_ext_iff_of_nodup ha hb).2 h
theorem Gt {d:District}{l:List Deed}(h:Deeds d l){m:BM}(hm:MapOk d m){hour known:Int}(hb:bk m=fM d l hour known):
  (m.filterMap (nF d)).Perm (nE d (fM d l hour known))∧∀ k∈m,0<k.2→0≤k.1.right∧k.1.right< (d.rights.length:Int):=by
 have hget:∀ (t:RegisterTitle) (v:Int),(t,v)∈m→bk m t.right t.farm=v:=fun t v htv=>by
  have:=(xB hm.nodup).2 htv
  show(fc m { right:=t.right,farm:=t.farm}).getD _=v
  have e:({ right:=t.right,farm:=t.farm}:RegisterTitle)=t:=rfl
  rw[e,this];rfl
 have hrng:∀ k∈m,0<k.2→0≤k.1.right∧k.1.right< (d.rights.length:Int):=fun k hk h0=>by
  rcases Classical.em (0≤k.1.right∧k.1.right< (d.rights.length:Int))with hr|hr
  ·exact hr
  ·have e:=hget k.1 k.2 hk
   rw[hb]at e
   unfold fM at e
   rw[E6 hr _ _ (qF h hour known)]at e
   unfold B0 at e
   rw[if_neg (fun h=>hr ⟨h.1,h.2.1⟩)]at e
   omega
 refine⟨E7 ?_ (Gs (tG _ _)) fun x=>?_,hrng⟩
 ·rw[List.Nodup,List.pairwise_filterMap]
  have:m.Pairwise fun a b=>a.1≠b.1:=by
   have:=hm.nodup
   unfold gQ at this
   rw[List.Nodup,List.pairwise_map]at this
   exact this
  refine this.imp fun {a b} hab x hx y hy=>?_
  unfold nF at hx hy
  split at hx
  ·split at hy
   ·cases hx;cases hy
    intro e
    simp only[Holding.mk.injEq]at e
    refine hab ?_
    obtain⟨⟨a1,a2⟩,a3⟩:=a
    obtain⟨⟨b1,b2⟩,b3⟩:=b
    simp only at e
    simp[e.1,e.2.1]
   ·cases hy
  ·cases hx
 ·rw[List.mem_filterMap,uF]
  constructor
  ·rintro⟨k,hk,hx⟩
   unfold nF at hx
   split at hx
   ·rename_i h0
    cases hx
    have e:=hget k.1 k.2 hk
    obtain⟨a,b⟩:=hrng k hk h0
    obtain⟨L,_,hg⟩:=hm.good k.1.right
    obtain⟨c,f⟩:=hg.sup k.1.farm (by rw[e];omega)
    exact⟨a,b,c,f,h0,by simp only;rw[←hb,e],rfl⟩
   ·cases hx
  ·rintro⟨a,b,c,f,h0,h1,h2⟩
   rw[←hb]at h1
   have h3:fc m (RT x.right x.farm)=some x.litres:=by
    have e:bk m x.right x.farm=(fc m (RT x.right x.farm)).getD 0:=rfl
    cases hg:fc m (RT x.right x.farm)with
    |none=>rw[e,hg]at h1;simp at h1;omega
    |some v=>rw[e,hg]at h1;simp at h1;rw[h1]
   refine⟨(RT x.right x.farm,x.litres),(xB hm.nodup).1 h3,?_⟩
   unfold nF
   rw[if_pos h0]
   simp only[Option.some.injEq]
   rw[←h2]
open Go.Shelf Go.Sort in
theorem zn {d:District}{B:Int→Int→Int}{s:List Holding}(h:s.Perm (nE d B)):apart bX s∧srt bX s=nE d B:=by
 have e1:∀ x y,ltOf bX x y=true↔hlt x y:=fun x y=>by unfold ltOf;rw[decide_eq_true_eq,xl]
 have e2:∀ x y,ltOf bX x y=false↔¬hlt x y:=fun x y=>by rw[←e1];simp
 have heq:∀ x∈nE d B,∀ y∈nE d B,¬hlt x y→¬hlt y x→x=y:=fun x hx y hy h1 h2=>by
  obtain⟨_,_,_,_,_,x1,x2⟩:=uF.1 hx
  obtain⟨_,_,_,_,_,y1,y2⟩:=uF.1 hy
  simp only[hlt,uv,and_false,or_false]at h1 h2
  have q1:x.right=y.right:=by omega
  have q2:x.farm=y.farm:=by omega
  obtain⟨a,b,c,e⟩:=x
  obtain⟨a',b',c',e'⟩:=y
  simp only at q1 q2 x1 x2 y1 y2
  subst q1;subst q2
  rw[x1,x2,y1,y2]
 refine⟨fun x hx y hy h1 h2=>heq x (h.subset hx) y (h.subset hy) ((e2 x y).1 h1) ((e2 y x).1 h2),?_⟩
 unfold srt
 have hp:(s.mergeSort fun x y=>!(ltOf bX y x)).Perm (nE d B):=(List.mergeSort_perm _ _).trans h
 refine List.Perm.eq_of_pairwise (le:=fun x y=>(!ltOf bX y x)=true) ?_ ?_ ?_ hp
 ·intro x y hx hy h1 h2
  simp only[Bool.not_eq_true']at h1 h2
  exact heq x (hp.subset hx) y hy ((e2 x y).1 h2) ((e2 y x).1 h1)
 ·refine List.pairwise_mergeSort ?_ ?_ s
  ·intro a b c h1 h2
   simp only[Bool.not_eq_true']at h1 h2 ⊢
   exact uZ.3 c b a h2 h1
  ·intro a b
   simp only[Bool.or_eq_true,Bool.not_eq_true']
   rcases Classical.em (hlt b a)with hh|hh
   ·refine .inr ((e2 _ _).2 fun h3=>?_)
    simp only[hlt,uv,and_false,or_false]at hh h3;omega
   ·exact .inl ((e2 _ _).2 hh)
 ·refine(tG d B).imp fun {a b} hab=>?_
  simp only[Bool.not_eq_true']
  refine(e2 _ _).2 fun h3=>?_
  simp only[hlt,uv,and_false,or_false]at hab h3;omega
theorem vb (d:District)(l:List Deed)(hour known:Int):eX d l hour known∧
  bS d l hour known=if aq d l≠0 then([],aq d l)else if 0≤hour∧hour<d.hours∧0≤known∧known≤1048576 then(nE d (fM d l hour known),0)else([],1):=by
 by_cases hc:aq d l=0
 ·have hD:=qz hc
  have hE:=((oP d l).1 hc).1
  have hh:=hD.right.hours
  have hh1:=hD.right.hours1
  have hw:((!(an hour 0 (IntKind.i64.wrap (d.hours - 1)))) ||(!(an known 0 1048576)))= !decide (0≤hour∧hour<d.hours∧0≤known∧known≤1048576):=by
   rw[aT (by omega) (by omega),←Bool.not_and]
   congr 1
   rw[Bool.eq_iff_iff,Bool.and_eq_true,oa,oa,decide_eq_true_eq]
   omega
  obtain⟨c1,c2⟩:=u_ l hour known hD.len
  have hlen:(stS (ph l hour known)).length≤512:=by rw[vM];exact Nat.le_trans (List.length_filter_le _ _) hD.len
  obtain⟨f1,m,f2,f3,f4⟩:=zk hE (qF hD hour known) hlen
  obtain⟨p1,p2⟩:=Gt hD f3 (hour:=hour) (known:=known) f4
  have key:∀ L:BM,L.Perm m→(L.filterMap (nF d)).Perm (nE d (fM d l hour known)):=fun L hL=>(hL.filterMap _).trans p1
  have val:bS d l hour known=if 0≤hour∧hour<d.hours∧0≤known∧known≤1048576 then(nE d (fM d l hour known),0)else([],1):=by
   unfold bS
   rw[hc,hw,c2,f2]
   simp only[bne_self_eq_false,cond_false]
   by_cases hg:0≤hour∧hour<d.hours∧0≤known∧known≤1048576
   ·rw[decide_eq_true hg,if_pos hg]
    simp only[Bool.not_true,cond_false]
    rw[AD,List.nil_append]
    simp only
    rw[(zn (key m (List.Perm.refl _))).2]
   ·rw[decide_eq_false hg,if_neg hg];rfl
  refine⟨⟨mn d l,(fun h=>by rw[hc]at h;cases h),fun _=>⟨fun h=>?_,fun h=>?_⟩⟩,by rw[if_neg (by simp[hc])];exact val⟩
  ·rw[hw]at h
   rw[val,if_neg (by simpa only[Bool.not_eq_true',decide_eq_false_iff_not]using h)]
  ·rw[hw]at h
   have hg:0≤hour∧hour<d.hours∧0≤known∧known≤1048576:=by simpa using h
   rw[c2,f2]
   refine⟨c1,f1,fun L hL=>?_⟩
   have hk:=key L hL
   refine⟨DZ d l hour known L [] (fun k hk=>p2 k (hL.subset hk)) ?_,fun s hs=>?_⟩
   ·have h1:=hk.length_eq
    have h2:=zm hD.right (fM d l hour known)
    rw[h1,List.length_nil]
    unfold gJ
    omega
   ·rw[AD,List.nil_append]at hs
    cases hs
    obtain⟨s1,s2⟩:=zn hk
    exact⟨s1,by rw[s2,val,if_pos hg]⟩
 ·have hne:(aq d l !=0)=true:=by simpa using hc
  have val:bS d l hour known=([],aq d l):=by unfold bS;rw[hne];rfl
  refine⟨⟨mn d l,(fun _=>val.symm),fun h=>?_⟩,by rw[if_pos hc];exact val⟩
  rw[hne]at h;cases h
end Go.Sx
end
section
namespace Go.Sx
open Go.Proofs
set_option maxRecDepth 100000
set_option linter.unusedSimpArgs false
def a7:District:=({ name:=(ByteArray.mk #[]),hours:=4,tank:=({ cap:=9,start:=9}:Tank),reaches:=[({ name:=(ByteArray.mk #[]),up:=(-1),delay:=1,cap:=50,bank:=50,siphon:=0,evap:=({ lo:=0,hi:=0}:Range),seep:=(({ n:=0,d:=1}:Ratio),({ n:=0,d:=1}:Ratio))}:Reach)],farms:=[({ name:=(ByteArray.mk #[]),reach:=0,area:=0,crop:=(-1)}:Farm),({ name:=(ByteArray.mk #[]),reach:=0,area:=0,crop:=(-1)}:Farm),({ name:=(ByteArray.mk #[]),reach:=0,area:=0,crop:=(-1)}:Farm)],crops:=[],rights:=[({ name:=(ByteArray.mk #[]),kind:=1,farm:=0,reach:=0,rank:=7,litres:=5,since:=0,to:=3,every:=1,length:=1}:Right)],duties:=[],wells:=[]}:District)
@[go_sem] def rT:List SV→Option Con:=(pE (.det True (.agg (cellsOf .district (a7)))))
theorem xK:FnOk Tryz.prog 33 rT:=by
 have hG:ConsOk Tryz.prog (mkG [] []):=ay cg0 cg0
 refine aU [.st .district] mixed am hG (fn:=Tryz.f33) (c:=ae Tryz.f33) (by kernel_rfl) (by kernel_rfl) (by kernel_rfl) (by kernel_rfl) (aI (fun hp=>?_))
 dsimp only[aG]at hp
 refine⟨Nat.le_of_ble_eq_true rfl,L0,ah _,?_⟩
 ·unfold ae Tryz.f33
  try unfold a7
  simp only[go_sem,Nat.reduceBEq,Nat.reduceLeDiff,Nat.reduceLT,decide_true,Nat.reduceAdd,Nat.reduceSub,Nat.reduceMul,Int.reduceLE,Int.reduceLT,Int.reduceToNat,Int.reduceNeg,reduceCtorEq]
  all_goals exact cl
def jR:Ratio:=({ n:=1,d:=2}:Ratio)
@[go_sem] def tI:List SV→Option Con:=(pE (.det True (.agg [.v (.int .i64 ((jR).n)),.v (.int .i64 ((jR).d))])))
theorem ym:FnOk Tryz.prog 34 tI:=by
 have hG:ConsOk Tryz.prog (mkG [] []):=ay cg0 cg0
 refine HA true mixed am hG (fn:=Tryz.f34) (c:=ae Tryz.f34) (by kernel_rfl) (by kernel_rfl) (by kernel_rfl) (by kernel_rfl) (aI (fun hp=>?_))
 dsimp only[aG]at hp
 refine⟨Nat.le_of_ble_eq_true rfl,L0,ah _,?_⟩
 ·unfold ae Tryz.f34
  try unfold jR
  simp only[go_sem,Nat.reduceBEq,Nat.reduceLeDiff,Nat.reduceLT,decide_true,Nat.reduceAdd,Nat.reduceSub,Nat.reduceMul,Int.reduceLE,Int.reduceLT,Int.reduceToNat,Int.reduceNeg,reduceCtorEq]
  all_goals exact cl
end Go.Sx
end
