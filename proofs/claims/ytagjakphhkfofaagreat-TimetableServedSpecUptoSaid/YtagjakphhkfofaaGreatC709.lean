/- Part of the proof that the law TimetableServedSpec returns true and leaves its arguments as they were, for all arguments of bulk at most 1048576 (the Upto form). -/
import Derived.Test.YtagjakphhkfofaaGreatC708
import Derived.Test.YtagjakphhkfofaaGreatC707
set_option linter.all false
set_option maxHeartbeats 4000000
section
namespace Go.Sx
open Go.Proofs
def zt (x:Int×Int):List SV:=[.v (.int .i64 x.1),.v (.int .i64 x.2)]
def qg (H:Nat):Nat→List (Int×Int)
 |0=>[]
 |r+1=>((List.range H).map fun h:Nat=>((r:Int),(h:Int)))++qg H r
def br (d:District):List (Int×Int):=qg d.hours.toNat d.reaches.length
theorem O1 {j:Nat}(hj:j≤a7):IntKind.i64.wrap ((j:Int) - 1)=(j:Int) - 1:=by unfold a7 at hj;exact bv (by omega) (by omega)
theorem vh {p:Pk}{f:FuncId}{a b:List SV}:sX [p] (.fn f a b)=vQ p (.fn f a b):=(rfl)
theorem vj {f:FuncId}{a b:List SV}:vQ .o (.fn f a b)=.fn f a b:=(rfl)
@[go_sem] def fm:List SV→Option Con:=pD .district fun d=>pE (.det True (.fn 129 [] [.ep (cellsOf .district d) 0]))
theorem vm:FnOk Tryz.prog 95 fm:=by
 have hG:ConsOk Tryz.prog (mkG [] []):=aC cg0 cg0
 refine aI [.o] mixed ax hG (fn:=Tryz.f95) (c:=aa Tryz.f95) (by kernel_rfl) (by kernel_rfl) (by kernel_rfl) (by kernel_rfl) (aN fun l=>aB fun hp=>?_)
 refine⟨Nat.le_of_ble_eq_true rfl,L0,ak _,?_⟩
 unfold aa Tryz.f95
 simp only[go_sem,vh,vj,Nat.reduceBEq,Nat.reduceLeDiff,Nat.reduceAdd,Nat.reduceSub,Nat.reduceMul]
theorem NS {α:Type}{l m:List α}{x:α}{k:Nat}(h:l.drop k=x::m):l[k]? =some x∧k+1≤l.length∧l.drop (k+1)=m:=by
 have h0:(l.drop k)[0]? =l[k]?:=by rw[List.getElem?_drop];rfl
 rw[h]at h0
 refine⟨h0.symm,?_,by rw[←List.drop_drop,h];rfl⟩
 have:=(List.getElem?_eq_some_iff.1 h0.symm).1
 omega
def vn (r H h:Nat):List (Int×Int):=((List.range' h (H - h)).map fun h:Nat=>((r:Int),(h:Int)))
theorem ll {r H h:Nat}(hh:h<H):vn r H h=((r:Int),(h:Int))::vn r H (h+1):=by
 unfold vn
 rw[show H - h=(H - (h+1))+1 by omega,List.range'_succ]
 rfl
theorem pw {r H:Nat}:vn r H H=[]:=by simp[vn]
theorem px {H r:Nat}:qg H (r+1)=vn r H 0++qg H r:=by
 unfold vn
 rw[qg,List.range_eq_range']
 rfl
open Classical in
theorem Iz (d:District)(hH:d.hours<9223372036854775808):Aw Tryz.prog 129 (fun y=>[y,.ep (cellsOf .district d) 0]) [] ((br d).map zt):=by
 unfold br
 generalize hI:(qg d.hours.toNat d.reaches.length).map zt=items
 refine J0 (fun r hr hy=>?_) (fun args w=>by kernel_rfl)
 have hG:ConsOk Tryz.prog (xw [] [] (itY items r)):=uT (by simp) (by simp) hy
 refine⟨fun l h=>if l=[.os 0,.ep (cellsOf .district d) 0]∧h=[.ab (r 1)]then some { α:=Nat,pre:=True,post:=fun j=>j=0∨j=items.length+1,res:=fun j=>.ret (.tup []) [.ab (r j)]}else none,
  ?_,_,if_pos ⟨rfl,rfl⟩,trivial,fun j hj=>⟨_,j,_,rfl,hj⟩⟩
 refine y4 mixed ax hG (fn:=Tryz.f129) (c:=aa Tryz.f129) (by kernel_rfl) (by kernel_rfl) (by kernel_rfl) (by kernel_rfl) fun l o con h hp=>?_
 split at h
 rotate_left
 ·cases h
 rename_i hlo
 obtain⟨rfl,rfl⟩:=hlo
 cases h
 refine⟨Nat.le_of_ble_eq_true rfl,fun id st=>bif Nat.beq id 0 then some { α:=Bool,pre:=lk 0 st.t=.os 0∧lk 1 st.t=.ep (cellsOf .district d) 0∧lk 3 st.t=.v (.int .i64 ((d.reaches.length:Int) - 1))∧st.h=[.ab (r 1)]∧d.reaches.length≤a7,post:=fun _=>True,ex:=fun b=>bif b then .normal else .ret,out:=fun b=>⟨[],[.ab (r (bif b then items.length+1 else 0))]⟩:LCon}else none,?_,?_⟩
 ·unfold aa Tryz.f129
  simp only[ay,true_and,and_true]
  refine uS mixed ax hG (by kernel_rfl) fun st lc hC hp=>?_
  simp only[go_sem,Nat.reduceBEq,Option.some.injEq]at hC
  subst hC
  obtain⟨t,h⟩:=st
  dsimp only at hp
  obtain⟨h0,h1,h2,rfl,hm⟩:=hp
  refine⟨Nat×Nat,fun x=>⟨[(0,.os 0),(1,.ep (cellsOf .district d) 0),(3,.v (.int .i64 ((x.2:Int) - 1)))],[.ab (r (x.1+1))]⟩,fun x=>x.2≤d.reaches.length∧items.drop x.1=(qg d.hours.toNat x.2).map zt∧x.1≤items.length,fun x=>x.2,(0,d.reaches.length),[0],⟨Nat.le_refl _,hI.symm,Nat.zero_le _⟩,Nat.le_refl _,?_,?_⟩
  ·simp only[go_sem,h0,h1,h2,Nat.reduceBEq,Nat.reduceLeDiff,Nat.reduceAdd,true_and,and_true]
   all_goals (first|done|decide|(repeat' (first|refine And.intro ?_ ?_|rfl|decide)))
  ·rintro⟨k,j⟩ ⟨hj,hdrop,hk⟩
   simp only at hj hdrop hk
   cases j with
   |zero=>
    refine⟨L0,_,ak _,fun _ _ q=>q,?_⟩
    simp only[go_sem,Cn hr,true_imp_iff,decide_eq_true_eq,Bool.false_eq_true,false_imp_iff,Nat.reduceBEq,Nat.reduceLeDiff,Nat.reduceAdd,Nat.reduceSub,Nat.reduceMul,true_and,and_true,implies_true]
    refine⟨fun hn=>absurd hn (by decide),fun hn=>?_⟩
    have hlen:(qg d.hours.toNat 0).length=items.length - k:=by rw[←List.length_drop,hdrop,List.length_map]
    have:(qg d.hours.toNat 0).length=0:=rfl
    refine⟨true,[0],?_⟩
    have e:items.length+1=k+1:=by omega
    simp only[go_sem,e,Nat.reduceBEq,Nat.reduceLeDiff,Nat.reduceAdd,true_and,and_true]
    all_goals (first|done|decide|(repeat' (first|refine And.intro ?_ ?_|rfl|decide)))
   |succ j=>
    have ej:((j+1:Nat):Int) - 1=(j:Int):=by omega
    have hw:IntKind.i64.wrap ((j:Int) - 1)=(j:Int) - 1:=O1 (by omega)
    simp only[ej]
    refine⟨fun id st=>bif Nat.beq id 2 then some { α:=Nat×Bool,pre:=lk 0 st.t=.os 0∧lk 1 st.t=.ep (cellsOf .district d) 0∧lk 3 st.t=.v (.int .i64 (j:Int))∧lk 14 st.t=.v (.int .i64 d.hours)∧lk 15 st.t=.v (.int .i64 0)∧st.h=[.ab (r (k+1))],post:=fun x=>x.2=true→items.drop x.1=(qg d.hours.toNat j).map zt∧x.1≤items.length,ex:=fun b=>bif b.2 then .normal else .ret,out:=fun b=>⟨[(0,.os 0),(1,.ep (cellsOf .district d) 0),(3,.v (.int .i64 (j:Int)))],[.ab (r (bif b.2 then b.1+1 else 0))]⟩:LCon}else none,_,?_,fun _ _ q=>q,?_⟩
    ·simp only[ay,true_and,and_true]
     refine uS mixed ax hG (by kernel_rfl) fun st lc hC hp=>?_
     simp only[go_sem,Nat.reduceBEq,Option.some.injEq]at hC
     subst hC
     obtain⟨t,h⟩:=st
     dsimp only at hp
     obtain⟨i0,i1,i3,i14,i15,rfl⟩:=hp
     refine⟨Nat×Nat,fun x=>⟨[(0,.os 0),(1,.ep (cellsOf .district d) 0),(3,.v (.int .i64 (j:Int))),(14,.v (.int .i64 d.hours)),(15,.v (.int .i64 (x.2:Int)))],[.ab (r (x.1+1))]⟩,fun x=>x.2≤d.hours.toNat∧items.drop x.1=(vn j d.hours.toNat x.2++qg d.hours.toNat j).map zt∧x.1≤items.length,fun x=>d.hours.toNat - x.2,(k,0),[0],⟨Nat.zero_le _,by rw[hdrop,px],hk⟩,Nat.le_refl _,?_,?_⟩
     ·simp only[go_sem,i0,i1,i3,i14,i15,Nat.reduceBEq,Nat.reduceLeDiff,Nat.reduceAdd,true_and,and_true]
      all_goals (first|done|decide|(repeat' (first|refine And.intro ?_ ?_|rfl|decide)))
     ·rintro⟨k,g⟩ ⟨hg,hdr,hk⟩
      simp only at hg hdr hk
      refine⟨L0,_,ak _,fun _ _ q=>q,?_⟩
      simp only[go_sem,Cn hr,true_imp_iff,decide_eq_true_eq,Bool.false_eq_true,false_imp_iff,Nat.reduceBEq,Nat.reduceLeDiff,Nat.reduceAdd,Nat.reduceSub,Nat.reduceMul,true_and,and_true,implies_true]
      refine⟨fun hlt=>?_,fun hge=>?_⟩
      ·have hlt':g<d.hours.toNat:=by omega
       rw[ll hlt',List.cons_append,List.map_cons]at hdr
       obtain⟨q1,q2,q3⟩:=NS hdr
       have hw2:IntKind.i64.wrap ((g:Int)+1)=((g+1:Nat):Int):=G_ hlt' hH
       refine⟨q1,⟨(k+1,g+1),[0],⟨hlt',q3,q2⟩,by simp only;omega,?_⟩,⟨(0,false),[0],(fun h=>nomatch h),rfl,?_⟩,(fun h=>nomatch h)⟩
       all_goals simp only[go_sem,hw2,Nat.reduceBEq,Nat.reduceLeDiff,Nat.reduceAdd,true_and,and_true]
       all_goals (first|done|decide|(repeat' (first|refine And.intro ?_ ?_|rfl|decide)))
      ·have hge':g=d.hours.toNat:=by
        have:¬ (g:Int) <d.hours:=by simpa using hge
        omega
       subst hge'
       rw[pw,List.nil_append]at hdr
       refine⟨(k,true),[0],fun _=>⟨hdr,hk⟩,rfl,?_⟩
       all_goals simp only[go_sem,Nat.reduceBEq,Nat.reduceLeDiff,Nat.reduceAdd,true_and,and_true]
       all_goals (first|done|decide|(repeat' (first|refine And.intro ?_ ?_|rfl|decide)))
    ·simp only[go_sem,true_imp_iff,decide_eq_true_eq,Bool.false_eq_true,false_imp_iff,Nat.reduceBEq,Nat.reduceLeDiff,Nat.reduceAdd,Nat.reduceSub,Nat.reduceMul,true_and,and_true,implies_true]
     refine⟨fun _ b hb=>?_,fun hn=>absurd (Int.natCast_nonneg j) (by simpa using hn)⟩
     obtain⟨k',b⟩:=b
     cases b with
     |true=>
      obtain⟨q1,q2⟩:=hb rfl
      simp only[go_sem,hw,Nat.reduceBEq,Nat.reduceLeDiff,Nat.reduceAdd,true_and,and_true]
      refine⟨(k',j),[0],⟨by simp only;omega,q1,q2⟩,Nat.lt_succ_self _,?_⟩
      all_goals simp only[go_sem,hw,Nat.reduceBEq,Nat.reduceLeDiff,Nat.reduceAdd,true_and,and_true]
      all_goals (first|done|decide|(repeat' (first|refine And.intro ?_ ?_|rfl|decide)))
     |false=>
      simp only[go_sem,Nat.reduceBEq,Nat.reduceLeDiff,Nat.reduceAdd,true_and,and_true]
      refine⟨false,[0],rfl,?_⟩
      all_goals simp only[go_sem,hw,Nat.reduceBEq,Nat.reduceLeDiff,Nat.reduceAdd,true_and,and_true]
      all_goals (first|done|decide|(repeat' (first|refine And.intro ?_ ?_|rfl|decide)))
 ·unfold aa Tryz.f129
  simp only[go_sem,true_imp_iff,decide_eq_true_eq,Nat.reduceBEq,Nat.reduceLeDiff,Nat.reduceAdd,Nat.reduceSub,Nat.reduceMul,true_and,and_true,implies_true]
  intro hm
  rw[O1 hm]
  refine⟨⟨rfl,hm⟩,fun b=>?_⟩
  cases b
  ·simp only[go_sem]
   exact⟨0,_,_,[0],.inl rfl,rfl,Nat.le_refl 1,by simp only[go_sem,Nat.reduceBEq,Nat.reduceLeDiff,Nat.reduceAdd,true_and,and_true];first|done|decide⟩
  ·simp only[go_sem]
   exact⟨items.length+1,_,_,[0],.inr rfl,rfl,Nat.le_refl 1,by simp only[go_sem,Nat.reduceBEq,Nat.reduceLeDiff,Nat.reduceAdd,true_and,and_true];first|done|decide⟩
end Go.Sx
end
section
namespace Go.Sx
open Go.Proofs
set_option maxRecDepth 100000
set_option linter.unusedSimpArgs false
theorem rR {p:Prop}(h:p:=by(first|done|(repeat' (first|with_reducible refine And.intro ?_ ?_|((with_reducible show _≠_);first|assumption|omega|(simp_all [aX,bf];done) |grind) |with_reducible intro _)) <;>(first|done|exact Empty.elim ‹Empty› |assumption|rfl|omega|decide|exact fk [0,1,2,3,4,5] |exact czl|(simp only[*,cond_true,cond_false,Bool.not_true,Bool.not_false,go_sem,Nat.reduceBEq,Nat.reduceLeDiff,Nat.reduceLT,decide_true,Nat.reduceAdd,Nat.reduceSub,Nat.reduceMul,Int.reduceLE,Int.reduceLT,Int.reduceToNat,Int.reduceNeg,reduceCtorEq];(repeat' (first|with_reducible refine And.intro ?_ ?_|((with_reducible show _≠_);first|assumption|omega|(simp_all [aX,bf];done) |grind) |with_reducible intro _)) <;>(first|done|assumption|rfl|omega|decide|exact fk [0,1,2,3,4,5] |(simp_all [aX,bf];done))) |(simp_all [okI,aX,bf];done) |(simp_all [aX,bf];(first|done|exact fk2 [0,1,2,3,4,5])) |exact fk2 [0,1,2,3,4,5]))):p:=h
theorem zu {p:Prop}(h:p:=by(first|done|(repeat' (first|with_reducible refine And.intro ?_ ?_|((with_reducible show _≠_);first|assumption|omega|(simp_all [aX,bf];done) |grind) |with_reducible intro _)) <;>(first|done|exact Empty.elim ‹Empty› |assumption|rfl|omega|decide|exact fk [0,1,2,3,4,5,6,7] |exact fk [0,1,2,3,4,5,6,10] |exact czl|(simp only[*,cond_true,cond_false,Bool.not_true,Bool.not_false,go_sem,Nat.reduceBEq,Nat.reduceLeDiff,Nat.reduceLT,decide_true,Nat.reduceAdd,Nat.reduceSub,Nat.reduceMul,Int.reduceLE,Int.reduceLT,Int.reduceToNat,Int.reduceNeg,reduceCtorEq];(repeat' (first|with_reducible refine And.intro ?_ ?_|((with_reducible show _≠_);first|assumption|omega|(simp_all [aX,bf];done) |grind) |with_reducible intro _)) <;>(first|done|assumption|rfl|omega|decide|exact fk [0,1,2,3,4,5,6,7] |exact fk [0,1,2,3,4,5,6,10] |(simp_all [aX,bf];done))) |(simp_all [okI,aX,bf];done) |(simp_all [aX,bf];(first|done|exact fk2 [0,1,2,3,4,5,6,7] |exact fk2 [0,1,2,3,4,5,6,10])) |exact fk2 [0,1,2,3,4,5,6,7] |exact fk2 [0,1,2,3,4,5,6,10]))):p:=h
theorem KJ {p:Prop}(h:p:=by simp only[go_sem,Nat.reduceBEq,Nat.reduceLeDiff,Nat.reduceLT,decide_true,Nat.reduceAdd,Nat.reduceSub,Nat.reduceMul,Int.reduceLE,Int.reduceLT,Int.reduceToNat,Int.reduceNeg,reduceCtorEq,hc,hw];all_goals exact rR):p:=h
theorem Ea {p:Prop}(h:p:=by simp only[go_sem,Nat.reduceBEq,Nat.reduceLeDiff,Nat.reduceLT,decide_true,Nat.reduceAdd,Nat.reduceSub,Nat.reduceMul,Int.reduceLE,Int.reduceLT,Int.reduceToNat,Int.reduceNeg,reduceCtorEq,hc];all_goals exact rR):p:=h
@[go_sem] def ba (a0:District)(a1:List Order)(k_0:Nat)(s_0:List ((Int×Int)×Int)):Unit⊕(List ((Int×Int)×Int)):=(bif(!(a1.getD k_0 (default:Order)).outlet)then .inl ()else .inr (c7 .int2 .int s_0 ((a0.farms.getD (Int.toNat ((a1.getD k_0 (default:Order)).index)) (default:Farm)).reach,(a1.getD k_0 (default:Order)).hour) (IntKind.i64.wrap ((aK .int2 .int s_0 ((a0.farms.getD (Int.toNat ((a1.getD k_0 (default:Order)).index)) (default:Farm)).reach,(a1.getD k_0 (default:Order)).hour))+(a1.getD k_0 (default:Order)).litres))))
def fM (a0:District)(a1:List Order)(k_0:Nat)(s_0:List ((Int×Int)×Int)):Prop:=((!(a1.getD k_0 (default:Order)).outlet)=false→(0≤(a1.getD k_0 (default:Order)).index∧(a1.getD k_0 (default:Order)).index< (a0.farms.length:Int)))
@[go_sem] def aF (a0:District)(z_1:Int×Int)(s_1:List Order×List ((Int×Int)×Int)):(List ((Int×Int)×Int))⊕(List Order×List ((Int×Int)×Int)):=(bif((aK .int2 .int s_1.2 (z_1.1,z_1.2)) ==0)then .inr (s_1.1,s_1.2)else(bif((!(am (a0.reaches.getD (Int.toNat z_1.1) (default:Reach)) (aK .int2 .int s_1.2 (z_1.1,z_1.2))).2) ||(decide (z_1.2< (a0.reaches.getD (Int.toNat z_1.1) (default:Reach)).delay)))then .inl s_1.2 else .inr ((s_1.1++([({ hour:=(IntKind.i64.wrap (z_1.2 - (a0.reaches.getD (Int.toNat z_1.1) (default:Reach)).delay)),index:=z_1.1,litres:=(am (a0.reaches.getD (Int.toNat z_1.1) (default:Reach)) (aK .int2 .int s_1.2 (z_1.1,z_1.2))).1,outlet:=false}:Order)])),(c7 .int2 .int s_1.2 ((a0.reaches.getD (Int.toNat z_1.1) (default:Reach)).up,(IntKind.i64.wrap (z_1.2 - (a0.reaches.getD (Int.toNat z_1.1) (default:Reach)).delay))) (IntKind.i64.wrap ((aK .int2 .int s_1.2 ((a0.reaches.getD (Int.toNat z_1.1) (default:Reach)).up,(IntKind.i64.wrap (z_1.2 - (a0.reaches.getD (Int.toNat z_1.1) (default:Reach)).delay))))+(am (a0.reaches.getD (Int.toNat z_1.1) (default:Reach)) (aK .int2 .int s_1.2 (z_1.1,z_1.2))).1))))))
def eQ (a0:District)(z_1:Int×Int)(s_1:List Order×List ((Int×Int)×Int)):Prop:=(((aK .int2 .int s_1.2 (z_1.1,z_1.2)) ==0)=false→((0≤z_1.1∧z_1.1< (a0.reaches.length:Int))∧((iF (a0.reaches.getD (Int.toNat z_1.1) (default:Reach)) (aK .int2 .int s_1.2 (z_1.1,z_1.2)))∧(((!(am (a0.reaches.getD (Int.toNat z_1.1) (default:Reach)) (aK .int2 .int s_1.2 (z_1.1,z_1.2))).2) ||(decide (z_1.2< (a0.reaches.getD (Int.toNat z_1.1) (default:Reach)).delay)))=false→((s_1.1++([({ hour:=(IntKind.i64.wrap (z_1.2 - (a0.reaches.getD (Int.toNat z_1.1) (default:Reach)).delay)),index:=z_1.1,litres:=(am (a0.reaches.getD (Int.toNat z_1.1) (default:Reach)) (aK .int2 .int s_1.2 (z_1.1,z_1.2))).1,outlet:=false}:Order)])).length*32≤dE)))))
def an (a0:District)(a1:List Order):List Order×Bool×Int:=(bif((bq a0 a1) !=0)then([],false,(bq a0 a1))else(match ap (ba a0 a1) a1.length 0 ([])with| .inl x_0_0=>([],false,220) | .inr s_0=>(match cI (aF a0) (br a0) (a1,s_0)with| .inl x_1_0=>([],false,0) | .inr s_1=>(bif(decide ((s_1.1.length:Int) > 4096))then([],false,2)else((srt aG s_1.1),true,0)))))
def kx (a0:District)(a1:List Order):Prop:=((iG a0 a1)∧(((bq a0 a1) !=0)=false→(a1.length≤a7→(okI (ba a0 a1) (fM a0 a1) a1.length 0 ([])∧(∀ s_0,ap (ba a0 a1) a1.length 0 ([])=.inr s_0→((a1.length*32≤dE)∧((a0.hours<9223372036854775808)∧okL (aF a0) (eQ a0) (br a0) (a1,s_0)∧(∀ s_1,cI (aF a0) (br a0) (a1,s_0)=.inr s_1→(s_1.1.length≤a7→((decide ((s_1.1.length:Int) > 4096))=false→(apart aG s_1.1)))))))))))
@[go_sem] def oe:List SV→Option Con:=(pD .district fun a0=>(pR .order fun a1=>(pE (.det (kx a0 a1) (.tup [.rs .order ((an a0 a1).1),.v (.bool ((an a0 a1).2.1)),.v (.int .i64 ((an a0 a1).2.2))])))))
theorem qA:FnOk Tryz.prog 54 oe:=by
 have hG:ConsOk Tryz.prog (mkG [(44,cF),(93,fun l=>pu (cn [.st .district,.sl .order] l)),(94,fun l=>rQ (cn [.sl .order] l)),(95,fun l=>fm (cn [.st .district] l)),(96,pt)] [(97,jK)]):=aC (cgc n9 (cgc (u7.norm [.st .district,.sl .order]) (cgc (xG.norm [.sl .order]) (cgc (vm.norm [.st .district]) (cgc u6 cg0))))) (cgc w_ cg0)
 refine aI [.sl .order,.o,.o] mixed ax hG (fn:=Tryz.f54) (c:=aa Tryz.f54) (by kernel_rfl) (by kernel_rfl) (by kernel_rfl) (by kernel_rfl) (aN fun a0=>(cj fun a1=>(aB (fun hp=>?_))))
 dsimp only[aD]at hp
 unfold kx at hp
 refine⟨Nat.le_of_ble_eq_true rfl,(fun id st=>bif Nat.beq id 0 then some (LCR (ρ:=Unit) (σ:=(List ((Int×Int)×Int))) 6 [] [0,1,2,3,4,5] (fun k_0 s_0=>⟨[(1,.rs .order a1),(2,.ptr 0 0),(4,.ptr 1 0),(5,.ptr 2 0),(6,.ptr 3 0),(7,.ptr 5 0),(23,.rs .order a1),(24,.v (.int .i64 (a1.length:Int))),(25,.v (.int .i64 (k_0:Int)))],[.cells (cellsOf .district a0),.cells [.v (.slice none 0 0)],.cells [.v (.bool false)],.cells [.v (.int .i64 (bq a0 a1))],.mp .int2 .int s_0 none,.cells [.os 4]]⟩) (ba a0 a1) (fM a0 a1) a1.length ([]) (a1.length≤a7) (fun _=>.ret) (fun x_0_0=>⟨[(4,.ptr 1 0),(5,.ptr 2 0),(6,.ptr 3 0)],[.dead,.cells [.v (.slice none 0 0)],.cells [.v (.bool false)],.cells [.v (.int .i64 220)],.dead,.dead]⟩) st)else bif Nat.beq id 2 then some (LC (ρ:=List ((Int×Int)×Int)) (σ:=List Order×List ((Int×Int)×Int)) (lk 2 st.t=.ptr 0 0∧lk 4 st.t=.ptr 1 0∧lk 5 st.t=.ptr 2 0∧lk 6 st.t=.ptr 3 0∧lk 7 st.t=.ptr 5 0∧lk 53 st.t=.fn 129 [] [.ep (cellsOf .district a0) 0]∧st.h=[.cells (cellsOf .district a0),.cells [.os 6],.cells [.v (.bool false)],.cells [.v (.int .i64 (bq a0 a1))],.mp .int2 .int (aX (ap (ba a0 a1) a1.length 0 ([]))) none,.cells [.os 4],.row .order a1]∧a0.hours<9223372036854775808∧okL (aF a0) (eQ a0) (br a0) (a1,(aX (ap (ba a0 a1) a1.length 0 ([]))))) (cI (aF a0) (br a0) (a1,(aX (ap (ba a0 a1) a1.length 0 ([]))))) (fun _=>.ret) (fun x_1_0=>⟨[(2,.ptr 0 0),(4,.ptr 1 0),(5,.ptr 2 0),(6,.ptr 3 0),(7,.ptr 5 0)],[.cells (cellsOf .district a0),.cells [.v (.slice none 0 0)],.cells [.v (.bool false)],.cells [.v (.int .i64 0)],.mp .int2 .int x_1_0 none,.cells [.os 4],.dead,.dead]⟩) (fun s_1=>⟨[(2,.ptr 0 0),(4,.ptr 1 0),(5,.ptr 2 0),(6,.ptr 3 0),(7,.ptr 5 0)],[.cells (cellsOf .district a0),.cells [.os 7],.cells [.v (.bool false)],.cells [.v (.int .i64 (bq a0 a1))],.mp .int2 .int s_1.2 none,.cells [.os 4],.dead,.row .order s_1.1]⟩))else none),?_,?_⟩
 ·unfold aa Tryz.f54
  simp only[ay,true_and,and_true]
  refine⟨?_,?_⟩
  ·refine dB mixed ax hG (by kernel_rfl) (fun _=>rfl) (a1.length:Int) rfl g7 (fun hb0 k_0 s_0 hlt0 hq0 hw hc=>⟨L0,ak _,?_⟩) (fun hb0 s_0 hc=>?_)
   ·unfold fM at hq0
    try simp only[hw,Int.toNat_natCast]at hq0
    exact KJ
   ·exact Ea
  ·refine pj mixed ax hG (by decide) (by decide) (by kernel_rfl) (by kernel_rfl) fun st lc hC hp=>?_
   simp only[go_sem,Nat.reduceBEq,Option.some.injEq]at hC
   subst hC
   obtain⟨t,h⟩:=st
   dsimp only[LC]at hp
   obtain⟨e1_0,e1_1,e1_2,e1_3,e1_4,e1_5,rfl,hb1,hok1⟩:=hp
   refine⟨129,[.ep (cellsOf .district a0) 0],Int×Int,_,_,(br a0),zt,(aF a0),(eQ a0),_,(a1,(aX (ap (ba a0 a1) a1.length 0 ([])))),_,_,_,[(2,.ptr 0 0),(4,.ptr 1 0),(5,.ptr 2 0),(6,.ptr 3 0),(7,.ptr 5 0)],(fun s_1=>[.cells (cellsOf .district a0),.cells [.os 7],.cells [.v (.bool false)],.cells [.v (.int .i64 (bq a0 a1))],.mp .int2 .int s_1.2 none,.cells [.os 4],.dead,.row .order s_1.1]),(fun x_1_0=>[.cells (cellsOf .district a0),.cells [.v (.slice none 0 0)],.cells [.v (.bool false)],.cells [.v (.int .i64 0)],.mp .int2 .int x_1_0 none,.cells [.os 4],.dead,.dead]),[0,1,2,3,4,5,6,6],?_,rfl,hok1,Nat.le_of_ble_eq_true rfl,?_,Iz a0 hb1,fun z_1 s_1 hq1=>⟨rfl,L0,fun l=>?_,fun l=>?_,?_⟩,fun s_1=>?_,fun y=>?_⟩
   ·simp only[go_sem,e1_0,e1_1,e1_2,e1_3,e1_4,e1_5]
   ·simp only[go_sem,Nat.reduceBEq,Nat.reduceLeDiff,Nat.reduceLT,decide_true,Nat.reduceAdd,Nat.reduceSub,Nat.reduceMul,Int.reduceLE,Int.reduceLT,Int.reduceToNat,Int.reduceNeg,reduceCtorEq,qr,kc,List.flatMap_cons,List.flatMap_nil,List.nil_append,List.append_nil,List.map_nil,e1_0,e1_1,e1_2,e1_3,e1_4,e1_5]
    all_goals (first|done|decide|(repeat' (first|refine And.intro ?_ ?_|rfl|decide)))
   ·simp only[ay,and_self,true_and,and_true]
   ·simp only[ay,and_self,true_and,and_true]
   ·unfold eQ at hq1
    simp only[go_sem,Nat.reduceBEq,Nat.reduceLeDiff,Nat.reduceLT,decide_true,Nat.reduceAdd,Nat.reduceSub,Nat.reduceMul,Int.reduceLE,Int.reduceLT,Int.reduceToNat,Int.reduceNeg,reduceCtorEq,cF,fm,aF,psT,zt,List.cons_append,List.nil_append]
    all_goals exact zu
   ·simp only[go_sem,Nat.reduceBEq,Nat.reduceLeDiff,Nat.reduceLT,decide_true,Nat.reduceAdd,Nat.reduceSub,Nat.reduceMul,Int.reduceLE,Int.reduceLT,Int.reduceToNat,Int.reduceNeg,reduceCtorEq,cF,fm]
    all_goals exact zu
   ·simp only[go_sem,Nat.reduceBEq,Nat.reduceLeDiff,Nat.reduceLT,decide_true,Nat.reduceAdd,Nat.reduceSub,Nat.reduceMul,Int.reduceLE,Int.reduceLT,Int.reduceToNat,Int.reduceNeg,reduceCtorEq,cF,fm]
    all_goals exact zu
 ·unfold aa Tryz.f54
  try unfold an
  simp only[go_sem,Nat.reduceBEq,Nat.reduceLeDiff,Nat.reduceLT,decide_true,Nat.reduceAdd,Nat.reduceSub,Nat.reduceMul,Int.reduceLE,Int.reduceLT,Int.reduceToNat,Int.reduceNeg,reduceCtorEq,cF,fm]
  all_goals exact cl3
end Go.Sx
end
section
namespace Go.Sx
open Go.Proofs
def jf (d:District)(reach hour:Int)(x:Order):Bool:=(x.hour==hour)&&((x.outlet&&(d.farms.getD x.index.toNat default).reach==reach) ||(!x.outlet&&(d.reaches.getD x.index.toNat default).up==reach))
abbrev rch (d:District)(r:Int):Reach:=d.reaches.getD r.toNat default
def drw (d:District)(l:List Order)(r h:Int):Int:=cp (jf d r h) l
theorem Eb {ρ σ τ:Type}{step:τ→σ→ρ⊕σ}(J:List τ→σ→Prop)(hJ:∀ x L s,J (x::L) s→∀ s',step x s=.inr s'→J L s'):∀ (L:List τ) (s:σ),J L s→(∀ s',cI step L s=.inr s'→J [] s')∧∀ y,cI step L s=.inl y→∃ x L' s',J (x::L') s'∧step x s'=.inl y
 | [],s,h=>⟨fun s' e=>by simp only[cI,Sum.inr.injEq]at e;subst e;exact h,fun y e=>by simp[cI]at e⟩
 |x::L,s,h=>by
  cases hs:step x s with
  |inl y=>
   refine⟨fun s' e=>?_,fun y' e=>?_⟩
   ·simp only[cI,hs]at e;cases e
   ·simp only[cI,hs,Sum.inl.injEq]at e;subst e;exact⟨x,L,s,h,hs⟩
  |inr s1=>
   obtain⟨h1,h2⟩:=Eb J hJ L s1 (hJ x L s h s1 hs)
   exact⟨fun s' e=>h1 s' (by simpa only[cI,hs]using e),fun y e=>h2 y (by simpa only[cI,hs]using e)⟩
theorem Hw {ρ σ τ:Type}{step:τ→σ→ρ⊕σ}{p:τ→σ→Prop}(J:List τ→σ→Prop)(hJ:∀ x L s,J (x::L) s→p x s∧∀ s',step x s=.inr s'→J L s'):∀ (L:List τ) (s:σ),J L s→okL step p L s
 | [],_,_=>trivial
 |x::L,s,h=>⟨(hJ x L s h).1,fun s' e=>Hw J hJ L s' ((hJ x L s h).2 s' e)⟩
def PR (r h:Nat)(a b:Int):Prop:=(r:Int) <a∨a=r∧b< (h:Int)
abbrev Mp:=List ((Int×Int)×Int)
structure PG (d:District)(l:List Order)(x:Order):Prop where
 out:x.outlet=false
 i0:0≤x.index
 i1:x.index< (d.reaches.length:Int)
 h0:0≤x.hour
 h1:x.hour+(rch d x.index).delay<d.hours
 w:1≤drw d l x.index (x.hour+(rch d x.index).delay)
 v:am (rch d x.index) (drw d l x.index (x.hour+(rch d x.index).delay))=(x.litres,true)
structure PI (d:District)(out gs:List Order)(m:Mp)(r h:Nat):Prop where
 draws:∀ a b,aK .int2 .int m (a,b)=drw d (out++gs) a b
 gate:∀ x∈gs,PG d (out++gs) x∧PR r h x.index (x.hour+(rch d x.index).delay)
 all:∀ a b,0≤a→a< (d.reaches.length:Int)→0≤b→b<d.hours→PR r h a b→drw d (out++gs) a b≠0→∃ x∈gs,x.index=a∧x.hour+(rch d a).delay=b
 uniq:gs.Pairwise fun x y=>¬ (x.index=y.index∧x.hour=y.hour)
 len:gs.length≤(d.reaches.length - 1 - r)*d.hours.toNat+h
theorem x5 (d:District)(a b:List Order)(r h:Int):drw d (a++b) r h=drw d a r h+drw d b r h:=u_ _ _ _
theorem Cw (d:District)(x:Order)(r h:Int):drw d [x] r h=bif jf d r h x then x.litres else 0:=by unfold drw;simp[cp]
theorem Ec {d:District}(hr:Right1 d){l:List Order}{x:Order}(h:PG d l x):1≤x.litres∧x.litres≤1073741824∧(rch d x.index).siphon≤x.litres∧drw d l x.index (x.hour+(rch d x.index).delay)≤wst (rch d x.index) x.litres∧∀ u,0≤u→u≤1073741824→(rch d x.index).siphon≤u→drw d l x.index (x.hour+(rch d x.index).delay)≤wst (rch d x.index) u→x.litres≤u:=by
 have hk:x.index.toNat<d.reaches.length:=by have:=h.i0;have:=h.i1;omega
 rcases sO (i:=(x.index.toNat:Int)) (by omega) (hr.reach _ hk) h.w with⟨v,e,e1,e2,e3,e4,e5⟩ | ⟨e,_⟩
 ·have:=h.v
  rw[e]at this
  cases this
  exact⟨e1,e2,e3,e4,e5⟩
 ·rw[h.v]at e;cases e
theorem PI.lit {d:District}{out gs:List Order}{m:Mp}{r h:Nat}(hr:Right1 d)(ho:Orders1 d out)(p:PI d out gs m r h):∀ x∈out++gs,1≤x.litres∧x.litres≤1073741824:=fun x hx=>by
 rcases List.mem_append.1 hx with hx|hx
 ·exact ho.lit x hx
 ·have:=Ec hr (p.gate x hx).1;omega
theorem nH {d:District}{l:List Order}(h:∀ x∈l,1≤x.litres∧x.litres≤1073741824)(a b:Int):0≤drw d l a b∧drw d l a b≤l.length*1073741824:=oc h
theorem PI.len2 {d:District}{out gs:List Order}{m:Mp}{r h:Nat}(hr:Right1 d)(ho:Orders1 d out)(p:PI d out gs m r h)(hh:h≤d.hours.toNat):(out++gs).length≤266240+4096:=by
 have h1:=p.len
 have h2:(d.reaches.length - 1 - r)*d.hours.toNat≤64*4096:=Nat.mul_le_mul (by have:=hr.reaches;omega) (by have:=hr.hours;omega)
 have:=ho.len
 have:=hr.hours
 rw[List.length_append];omega
theorem PI.row {d:District}{out gs:List Order}{m:Mp}{r:Nat}(p:PI d out gs m (r+1) d.hours.toNat)(hr1:r+1<d.reaches.length)(hh:1≤d.hours):PI d out gs m r 0:=by
 refine⟨p.draws,fun x hx=>⟨(p.gate x hx).1,?_⟩,fun a b a0 a1 b0 b1 hp=>p.all a b a0 a1 b0 b1 ?_,p.uniq,?_⟩
 ·have:=(p.gate x hx).2
  unfold PR at this ⊢;omega
 ·unfold PR at hp ⊢;omega
 ·have:=p.len
  rw[show d.reaches.length - 1 - r=(d.reaches.length - 1 - (r+1))+1 by omega,Nat.succ_mul];omega
theorem PI.skip {d:District}{out gs:List Order}{m:Mp}{r h:Nat}(p:PI d out gs m r h)(h0:drw d (out++gs) r h=0):PI d out gs m r (h+1):=by
 refine⟨p.draws,fun x hx=>⟨(p.gate x hx).1,?_⟩,fun a b a0 a1 b0 b1 hp hne=>?_,p.uniq,?_⟩
 ·have:=(p.gate x hx).2
  unfold PR at this ⊢;omega
 ·by_cases hq:PR r h a b
  ·exact p.all a b a0 a1 b0 b1 hq hne
  ·have:a=r∧b=h:=by unfold PR at hp hq;omega
   obtain⟨rfl,rfl⟩:=this
   exact absurd h0 hne
 ·have:=p.len;omega
theorem O2 {d:District}(hr:Right1 d){r:Nat}(h:r<d.reaches.length):(rch d r).up<r:=(hr.reach1 h).up
theorem lm {d:District}(hr:Right1 d){r:Nat}(h:r<d.reaches.length):1≤(rch d r).delay∧(rch d r).delay≤16:=⟨(hr.reach1 h).delay1,(hr.reach1 h).delay⟩
theorem PI.add {d:District}{out gs:List Order}{m:Mp}{r h:Nat}(hr:Right1 d)(ho:Orders1 d out)(p:PI d out gs m r h)(hrl:r<d.reaches.length)(hhl:h<d.hours.toNat)(h1:1≤drw d (out++gs) r h){v:Int}(hv:am (rch d r) (drw d (out++gs) r h)=(v,true))(hd:(rch d r).delay≤h)(v0:1≤v)(v1:v≤1073741824):
  PI d out (gs++[{ hour:=(h:Int) - (rch d r).delay,index:=r,litres:=v,outlet:=false}]) (c7 .int2 .int m ((rch d r).up,(h:Int) - (rch d r).delay) (IntKind.i64.wrap (aK .int2 .int m ((rch d r).up,(h:Int) - (rch d r).delay)+v))) r (h+1):=by
 generalize hx:({ hour:=(h:Int) - (rch d r).delay,index:=(r:Int),litres:=v,outlet:=false}:Order)=x
 have xo:x.outlet=false:=by rw[←hx]
 have xi:x.index=r:=by rw[←hx]
 have xh:x.hour=(h:Int) - (rch d r).delay:=by rw[←hx]
 have xl:x.litres=v:=by rw[←hx]
 have hup:=O2 hr hrl
 have hdl:=lm hr hrl
 have hone:∀ a b,drw d (out++(gs++[x])) a b=drw d (out++gs) a b+(if a=(rch d r).up∧b=(h:Int) - (rch d r).delay then v else 0):=fun a b=>by
  rw[←List.append_assoc,x5,Cw]
  congr 1
  unfold jf
  rw[xo,xi,xh,xl]
  simp only[Bool.false_and,Bool.not_false,Bool.true_and,Bool.false_or,Int.toNat_natCast]
  by_cases e:a=(rch d r).up∧b=(h:Int) - (rch d r).delay
  ·obtain⟨rfl,rfl⟩:=e
   simp
  ·rw[if_neg e]
   have:((h:Int) - (rch d r).delay==b&&(d.reaches.getD r default).up==a)=false:=by
    rw[Bool.and_eq_false_iff,beq_eq_false_iff_ne,beq_eq_false_iff_ne]
    by_cases q:b=(h:Int) - (rch d r).delay
    ·right;intro e2;exact e ⟨e2.symm,q⟩
    ·left;exact fun e2=>q e2.symm
   rw[this];rfl
 have hsame:∀ a b,(r:Int)≤a→drw d (out++(gs++[x])) a b=drw d (out++gs) a b:=fun a b ha=>by
  rw[hone,if_neg (fun e=>by omega)];omega
 have hb:=nH (d:=d) (p.lit hr ho)
 have hlen:=p.len2 hr ho (by omega)
 refine⟨fun a b=>?_,fun y hy=>?_,fun a b a0 a1 b0 b1 hp hne=>?_,?_,?_⟩
 ·rw[ik (k:=.int2),hone,p.draws,p.draws]
  have:=hb (rch d r).up ((h:Int) - (rch d r).delay)
  by_cases e:a=(rch d r).up∧b=(h:Int) - (rch d r).delay
  ·rw[if_pos e,if_pos (by rw[e.1,e.2]),e.1,e.2,bv (by omega) (by omega)]
  ·rw[if_neg e,if_neg (fun q=>e (by cases q;exact⟨rfl,rfl⟩))];exact(Int.add_zero _).symm
 ·rcases List.mem_append.1 hy with hy|hy
  ·obtain⟨g,gp⟩:=p.gate y hy
   have hge:(r:Int)≤y.index:=by unfold PR at gp;omega
   refine⟨⟨g.out,g.i0,g.i1,g.h0,g.h1,by rw[hsame _ _ hge];exact g.w,by rw[hsame _ _ hge];exact g.v⟩,?_⟩
   unfold PR at gp ⊢;omega
  ·rw[List.mem_singleton]at hy
   subst hy
   have eh:y.hour+(rch d y.index).delay=h:=by rw[xh,xi];omega
   refine⟨⟨xo,by rw[xi];omega,by rw[xi];omega,by rw[xh];omega,by rw[eh];omega,?_,?_⟩,?_⟩
   ·rw[eh,xi,hsame _ _ (Int.le_refl _)];exact h1
   ·rw[eh,xi,hsame _ _ (Int.le_refl _),xl];exact hv
   ·rw[eh,xi];unfold PR;omega
 ·have hge:(r:Int)≤a:=by unfold PR at hp;omega
  rw[hsame _ _ hge]at hne
  by_cases hq:PR r h a b
  ·obtain⟨y,hy,e⟩:=p.all a b a0 a1 b0 b1 hq hne
   exact⟨y,List.mem_append_left _ hy,e⟩
  ·have:a=r∧b=h:=by unfold PR at hp hq;omega
   obtain⟨rfl,rfl⟩:=this
   exact⟨x,by simp,xi,by rw[xh];omega⟩
 ·rw[List.pairwise_append]
  refine⟨p.uniq,List.pairwise_singleton _ _,fun y hy z hz=>?_⟩
  rw[List.mem_singleton]at hz
  subst hz
  rintro⟨e1,e2⟩
  have:=(p.gate y hy).2
  rw[e1,e2,xi,xh]at this
  unfold PR at this;omega
 ·have:=p.len
  rw[List.length_append];simp;omega
theorem sR {d:District}{out:List Order}(hr:Right1 d)(ho:Orders1 d out):
  (∀ m,ap (ba d out) out.length 0 []=.inr m→(∀ x∈out,x.outlet=true)∧∀ a b,aK .int2 .int m (a,b)=drw d out a b)∧okI (ba d out) (fM d out) out.length 0 []∧((∀ x∈out,x.outlet=true)→∃ m,ap (ba d out) out.length 0 []=.inr m):=by
 let J:Nat→Mp→Prop:=fun k m=>k≤out.length→(∀ x∈out.take k,x.outlet=true)∧∀ a b,aK .int2 .int m (a,b)=drw d (out.take k) a b
 have hJ0:J 0 []:=fun _=>⟨by simp,fun a b=>by rw[List.take_zero];rfl⟩
 have hstep:∀ j s,0≤j→j<0+out.length→J j s→fM d out j s∧∀ s',ba d out j s=.inr s'→J (j+1) s':=fun j s _ hj hJ=>by
  have hj:j<out.length:=by omega
  obtain⟨h1,h2⟩:=hJ (by omega)
  have hx:=ho.one j hj
  refine⟨fun he=>?_,fun s' hs _=>?_⟩
  ·have:(out.getD j default).outlet=true:=by simpa using he
   have:=hx.farm this
   have:=hx.index0
   omega
  ·unfold ba at hs
   cases hout:(out.getD j default).outlet with
   |false=>rw[hout]at hs;cases hs
   |true=>
    rw[hout]at hs
    simp only[Bool.not_true,cond_false,Sum.inr.injEq]at hs
    have hel:=cm out default hj
    rw[List.take_succ_eq_append_getElem hj]
    refine⟨fun x hx=>?_,fun a b=>?_⟩
    ·rcases List.mem_append.1 hx with h|h
     ·exact h1 x h
     ·rw[List.mem_singleton]at h;subst h;rw[←hel];exact hout
    ·subst hs
     rw[x5,Cw,ik (k:=.int2),h2,h2,←hel]
     have hb:=nH (d:=d) (l:=out.take j) (fun x hx=>ho.lit x (List.mem_of_mem_take hx)) (d.farms.getD (out.getD j default).index.toNat default).reach (out.getD j default).hour
     have hl:(out.take j).length≤4096:=by have:=ho.len;rw[List.length_take];omega
     have hl1:=hx.litres1;have hl2:=hx.litres
     rw[bv (by omega) (by omega)]
     unfold jf
     rw[hout]
     simp only[Bool.true_and,Bool.not_true,Bool.false_and,Bool.or_false]
     by_cases e:(a,b)=((d.farms.getD (out.getD j default).index.toNat default).reach,(out.getD j default).hour)
     ·rw[if_pos e];cases e;simp
     ·rw[if_neg e]
      have:((out.getD j default).hour==b&&(d.farms.getD (out.getD j default).index.toNat default).reach==a)=false:=by
       rw[Bool.and_eq_false_iff,beq_eq_false_iff_ne,beq_eq_false_iff_ne]
       by_cases q:(out.getD j default).hour=b
       ·right;intro q2;exact e (by rw[q,q2])
       ·left;exact q
      rw[this];exact(Int.add_zero _).symm
 refine⟨fun m hm=>?_,fZ J _ _ _ hJ0 hstep,fun hall=>?_⟩
 ·have:=y9 J _ _ _ hJ0 (fun j s h1 h2 h3=>(hstep j s h1 h2 h3).2) m hm (by omega)
  rw[Nat.zero_add,List.take_length]at this
  exact this
 ·cases hrun:ap (ba d out) out.length 0 []with
  |inr m=>exact⟨m,rfl⟩
  |inl y=>
   exfalso
   have key:∀ n i s,i+n≤out.length→∀ y,ap (ba d out) n i s≠ .inl y:=by
    intro n
    induction n with
    |zero=>intro i s _ y h;simp[ap]at h
    |succ n ih=>
     intro i s hi y h
     simp only[ap]at h
     have hout:(out.getD i default).outlet=true:=hall _ (nG _ _ (by omega))
     unfold ba at h
     rw[hout]at h
     simp only[Bool.not_true,cond_false]at h
     exact ih (i+1) _ (by omega) y h
   exact key _ _ _ (by omega) y hrun
def PJ (d:District)(out:List Order)(L:List (Int×Int))(s:List Order×Mp):Prop:= ∃ gs r h,r<d.reaches.length∧h≤d.hours.toNat∧s.1=out++gs∧L=vn r d.hours.toNat h++qg d.hours.toNat r∧PI d out gs s.2 r h
theorem Cy {d:District}{out:List Order}(hr:Right1 d){x:Int×Int}{L:List (Int×Int)}{s:List Order×Mp}(h:PJ d out (x::L) s):∃ (gs:List Order) (r h:Nat),r<d.reaches.length∧h<d.hours.toNat∧s.1=out++gs∧x=((r:Int),(h:Int))∧L=vn r d.hours.toNat (h+1)++qg d.hours.toNat r∧PI d out gs s.2 r h:=by
 obtain⟨gs,r,h,h1,h2,h3,h4,h5⟩:=h
 have hH:=hr.hours1
 by_cases hh:h<d.hours.toNat
 ·rw[ll hh,List.cons_append]at h4
  cases h4
  exact⟨gs,r,h,h1,hh,h3,rfl,rfl,h5⟩
 ·have:h=d.hours.toNat:=by omega
  subst this
  rw[pw,List.nil_append]at h4
  cases r with
  |zero=>simp[qg]at h4
  |succ r=>
   rw[px,ll (by omega),List.cons_append]at h4
   cases h4
   exact⟨gs,r,0,by omega,by omega,h3,rfl,rfl,h5.row h1 hH⟩
theorem wy {d:District}{out:List Order}(hr:Right1 d)(ho:Orders1 d out){gs:List Order}{r h:Nat}(hrl:r<d.reaches.length)(hhl:h<d.hours.toNat){s:List Order×Mp}(hs:s.1=out++gs)(p:PI d out gs s.2 r h):
  (drw d (out++gs) r h=0∧aF d ((r:Int),(h:Int)) s=.inr s)∨
  (1≤drw d (out++gs) r h∧((am (rch d r) (drw d (out++gs) r h)).2=false∨(h:Int) < (rch d r).delay)∧aF d ((r:Int),(h:Int)) s=.inl s.2)∨
  ∃ v,1≤drw d (out++gs) r h∧am (rch d r) (drw d (out++gs) r h)=(v,true)∧(rch d r).delay≤h∧1≤v∧v≤1073741824∧
   aF d ((r:Int),(h:Int)) s=.inr (out++(gs++[{ hour:=(h:Int) - (rch d r).delay,index:=r,litres:=v,outlet:=false}]),c7 .int2 .int s.2 ((rch d r).up,(h:Int) - (rch d r).delay) (IntKind.i64.wrap (aK .int2 .int s.2 ((rch d r).up,(h:Int) - (rch d r).delay)+v))):=by
 have hb:=(nH (d:=d) (p.lit hr ho) r h).1
 have hm:=p.draws r h
 have hdl:=lm hr hrl
 have hH:=hr.hours
 by_cases h0:drw d (out++gs) r h=0
 ·refine .inl ⟨h0,?_⟩
  unfold aF
  simp only
  rw[hm,h0];rfl
 ·have h1:1≤drw d (out++gs) r h:=by omega
  have hne:(aK .int2 .int s.2 ((r:Int),(h:Int)) ==0)=false:=by rw[hm,beq_eq_false_iff_ne];exact h0
  have hw:IntKind.i64.wrap ((h:Int) - (rch d r).delay)=(h:Int) - (rch d r).delay:=bv (by omega) (by omega)
  by_cases hd:(h:Int) < (rch d r).delay
  ·refine .inr (.inl ⟨h1,.inr hd,?_⟩)
   unfold aF
   simp only[hne,cond_false]
   rw[decide_eq_true hd,Bool.or_true];rfl
  ·rcases sO (i:=(r:Int)) (by omega) (hr.reach r hrl) h1 with⟨v,e,e1,e2,e3,e4,e5⟩ | ⟨e,_⟩
   ·refine .inr (.inr ⟨v,h1,e,by omega,e1,e2,?_⟩)
    have e':am (d.reaches.getD r default) (aK .int2 .int s.2 ((r:Int),(h:Int)))=(v,true):=by rw[hm];exact e
    unfold aF
    simp only[hne,cond_false,Int.toNat_natCast]
    have hd':decide ((h:Int) < (d.reaches.getD r default).delay)=false:=decide_eq_false hd
    rw[e',hd']
    simp only[Bool.not_true,Bool.or_self,cond_false,hs,List.append_assoc]
    have hw':IntKind.i64.wrap ((h:Int) - (d.reaches.getD r default).delay)=(h:Int) - (rch d r).delay:=hw
    rw[hw']
    rfl
   ·refine .inr (.inl ⟨h1,.inl e,?_⟩)
    have e':(am (d.reaches.getD r default) (aK .int2 .int s.2 ((r:Int),(h:Int)))).2=false:=by rw[hm];exact e
    unfold aF
    simp only[hne,cond_false,Int.toNat_natCast]
    rw[e'];rfl
theorem Hz {d:District}{out:List Order}(hr:Right1 d)(ho:Orders1 d out)(x:Int×Int)(L:List (Int×Int))(s:List Order×Mp)(hpj:PJ d out (x::L) s):∀ s',aF d x s=.inr s'→PJ d out L s':=by
 obtain⟨gs,r,h,h1,h2,h3,rfl,h5,h6⟩:=Cy hr hpj
 intro s' hs
 rcases wy hr ho h1 h2 h3 h6 with⟨q0,q1⟩ | ⟨q0,q1,q2⟩ | ⟨v,q0,q1,q2,q3,q4,q5⟩
 ·rw[q1]at hs;cases hs
  exact⟨gs,r,h+1,h1,h2,h3,h5,h6.skip q0⟩
 ·rw[q2]at hs;cases hs
 ·rw[q5]at hs;cases hs
  exact⟨_,r,h+1,h1,h2,rfl,h5,h6.add hr ho h1 h2 q0 q1 q2 q3 q4⟩
theorem zv {d:District}{out:List Order}(hr:Right1 d){m:Mp}(hm:∀ a b,aK .int2 .int m (a,b)=drw d out a b):PJ d out (br d) (out,m):=by
 have h1:=hr.one
 refine⟨[],d.reaches.length - 1,0,by omega,Nat.zero_le _,by simp,?_,⟨by simpa using hm,by simp,fun a b a0 a1 b0 b1 hp=>?_,List.Pairwise.nil,by simp⟩⟩
 ·unfold br
  rw[←px,show d.reaches.length - 1+1=d.reaches.length by omega]
 ·unfold PR at hp;omega
structure PFin (d:District)(out gs:List Order):Prop where
 gate:∀ x∈gs,PG d (out++gs) x
 all:∀ a b,0≤a→a< (d.reaches.length:Int)→0≤b→b<d.hours→drw d (out++gs) a b≠0→∃ x∈gs,x.index=a∧x.hour+(rch d a).delay=b
 uniq:gs.Pairwise fun x y=>¬ (x.index=y.index∧x.hour=y.hour)
 len:gs.length≤d.reaches.length*d.hours.toNat
theorem KK {d:District}{out:List Order}(hr:Right1 d){s:List Order×Mp}(h:PJ d out [] s):∃ gs,s.1=out++gs∧PFin d out gs:=by
 obtain⟨gs,r,h,h1,h2,h3,h4,h5⟩:=h
 have hH:=hr.hours1
 have hh:h=d.hours.toNat:=by
  by_cases hq:h<d.hours.toNat
  ·rw[ll hq]at h4;cases h4
  ·omega
 subst hh
 rw[pw,List.nil_append]at h4
 have r0:r=0:=by
  cases r with
  |zero=>rfl
  |succ r=>rw[px,ll (by omega)]at h4;cases h4
 subst r0
 refine⟨gs,h3,⟨fun x hx=>(h5.gate x hx).1,fun a b a0 a1 b0 b1 hne=>h5.all a b a0 a1 b0 b1 ?_ hne,h5.uniq,?_⟩⟩
 ·unfold PR;omega
 ·have:=h5.len
  have e:d.reaches.length=(d.reaches.length - 1 - 0)+1:=by omega
  rw[e,Nat.succ_mul];omega
structure PX (d:District)(out gs:List Order)(r h:Nat):Prop where
 part:∃ m,PI d out gs m r h
 r1:r<d.reaches.length
 h1:h<d.hours.toNat
 w:1≤drw d (out++gs) r h
 no:(am (rch d r) (drw d (out++gs) r h)).2=false∨(h:Int) < (rch d r).delay
theorem zw {d:District}{out:List Order}(hr:Right1 d)(ho:Orders1 d out){m:Mp}(hm:∀ a b,aK .int2 .int m (a,b)=drw d out a b):
  ((∃ s,cI (aF d) (br d) (out,m)=.inr s∧∃ gs,s.1=out++gs∧PFin d out gs)∨∃ y,cI (aF d) (br d) (out,m)=.inl y∧∃ gs r h,PX d out gs r h)∧
  okL (aF d) (eQ d) (br d) (out,m):=by
 obtain⟨h1,h2⟩:=Eb (PJ d out) (fun x L s h=>Hz hr ho x L s h) (br d) (out,m) (zv hr hm)
 refine⟨?_,Hw (PJ d out) (fun x L s h=>⟨?_,Hz hr ho x L s h⟩) _ _ (zv hr hm)⟩
 ·cases hrun:cI (aF d) (br d) (out,m)with
  |inr s=>exact .inl ⟨s,rfl,KK hr (h1 s hrun)⟩
  |inl y=>
   refine .inr ⟨y,rfl,?_⟩
   obtain⟨x,L,s,g1,g2⟩:=h2 y hrun
   obtain⟨gs,r,h,q1,q2,q3,rfl,q5,q6⟩:=Cy hr g1
   rcases wy hr ho q1 q2 q3 q6 with⟨_,e⟩ | ⟨e0,e1,_⟩ | ⟨v,_,_,_,_,_,e⟩
   ·rw[e]at g2;cases g2
   ·exact⟨gs,r,h,⟨_,q6⟩,q1,q2,e0,e1⟩
   ·rw[e]at g2;cases g2
 ·obtain⟨gs,r,h,q1,q2,q3,rfl,q5,q6⟩:=Cy hr h
  unfold eQ
  simp only
  refine fun _=>⟨⟨by omega,by omega⟩,Kv _ _,fun _=>?_⟩
  have:=q6.len2 hr ho (by omega)
  rw[q3,List.length_append]
  have e:∀ (a:Order),[a].length=1:=fun _=>rfl
  rw[e]
  unfold dE
  omega
end Go.Sx
end
section
namespace Go.Sx
open Go.Proofs Go.Shelf Go.Sort Go.Lib
def K (x y:Order):Prop:=x.hour=y.hour∧x.index=y.index∧x.outlet=y.outlet
theorem K.symm {x y:Order}(h:K x y):K y x:=⟨h.1.symm,h.2.1.symm,h.2.2.symm⟩
theorem KL {x y:Order}(h:oy x=oy y):x.outlet=y.outlet:=by
 unfold oy at h
 cases h1:x.outlet <;>cases h2:y.outlet <;>rw[h1,h2]at h <;>simp at h
theorem vo {x y:Order}(h1:¬olt x y)(h2:¬olt y x):K x y:=by
 have e:x.hour=y.hour∧x.index=y.index∧oy x=oy y:=by unfold olt at h1 h2;omega
 exact⟨e.1,e.2.1,KL e.2.2⟩
theorem zx {x y:Order}(h:olt x y):¬K x y:=fun⟨h1,h2,h3⟩ =>by
 have:oy x=oy y:=by unfold oy;rw[h3]
 unfold olt at h;omega
theorem Cz {l:List Order}(h:l.Pairwise fun x y=>¬K x y){x y:Order}(hx:x∈l)(hy:y∈l)(hk:K x y):x=y:=by
 obtain⟨i,hi,rfl⟩:=List.getElem_of_mem hx
 obtain⟨j,hj,rfl⟩:=List.getElem_of_mem hy
 rw[List.pairwise_iff_getElem]at h
 rcases Nat.lt_trichotomy i j with q|q|q
 ·exact absurd hk (h i j hi hj q)
 ·subst q;rfl
 ·exact absurd hk.symm (h j i hj hi q)
theorem KM {l:List Order}(h:l.Pairwise fun x y=>¬K x y):apart aG l:=fun x hx y hy h1 h2=>by
 refine Cz h hx hy (vo (fun q=>?_) fun q=>?_)
 ·unfold ltOf at h1;rw[decide_eq_false_iff_not]at h1;exact h1 ((Bk _ _).2 q)
 ·unfold ltOf at h2;rw[decide_eq_false_iff_not]at h2;exact h2 ((Bk _ _).2 q)
theorem rS (l:List Order):(srt aG l).Perm l:=List.mergeSort_perm _ _
theorem jg {l m:List Order}(h:l.Perm m)(hm:m.Pairwise fun x y=>¬K x y):l.Pairwise fun x y=>¬K x y:=
 (h.pairwise_iff (fun {x y} (h:¬K x y) (k:K y x) =>h k.symm)).2 hm
theorem KN {l:List Order}(h:l.Pairwise fun x y=>¬K x y):(srt aG l).Pairwise olt:=by
 have h1:(srt aG l).Pairwise fun x y=>(!(ltOf aG y x))=true:=by
  refine List.pairwise_mergeSort (fun a b c h1 h2=>?_) (fun a b=>?_) l
  ·simp only[Bool.not_eq_true']at h1 h2 ⊢
   exact p_.ntrans _ _ _ h2 h1
  ·cases q:ltOf aG b a with
   |false=>rfl
   |true=>
    cases q2:ltOf aG a b with
    |false=>rfl
    |true=>have:=p_.trans _ _ _ q q2;rw[p_.irrefl]at this;cases this
 have h2:=jg (rS l) h
 refine(h1.and h2).imp fun {x y} ⟨q1,q2⟩ =>?_
 have q3:¬olt y x:=fun q=>by
  have:ltOf aG y x=true:=by unfold ltOf;rw[decide_eq_true_eq];exact(Bk _ _).2 q
  rw[this]at q1;cases q1
 exact Classical.byContradiction fun q4=>q2 (vo q4 q3)
structure Good (d:District)(l:List Order):Prop where
 chk:bt d=0
 len:l.length≤4096
 one:∀ x∈l,Order1 d x
 asc:l.Pairwise olt
theorem Good.right {d:District}{l:List Order}(h:Good d l):Right1 d:=rL (by rw[h.chk];rfl)
theorem HA {d:District}{l:List Order}(h:bA d l=0):Good d l:=by
 have ho:=zl (d:=d) (l:=l) (by rw[h];rfl)
 refine⟨((oT d l).1 h).1,ho.len,fun x hx=>?_,List.pairwise_iff_getElem.2 fun i j hi hj hij=>?_⟩
 ·obtain⟨i,hi,rfl⟩:=List.getElem_of_mem hx
  have:=ho.one i hi
  rwa[cm _ _ hi]at this
 ·have:=ho.lt j i hij hj
  rwa[cm _ _ hi,cm _ _ hj]at this
theorem Good.orders {d:District}{l:List Order}(h:Good d l):Orders1 d l:=by
 refine⟨h.right,h.len,fun k hk=>?_,fun k hk=>?_⟩
 ·rw[cm _ _ hk];exact h.one _ (List.getElem_mem _)
 ·rw[cm _ _ hk,cm _ _ (by omega:k<l.length)]
  exact(Bk _ _).2 (List.pairwise_iff_getElem.1 h.asc _ _ _ _ (by omega))
theorem Good.keys {d:District}{l:List Order}(h:Good d l):l.Pairwise fun x y=>¬K x y:=h.asc.imp fun {_ _} q=>zx q
theorem KO {d:District}{l:List Order}(h:Good d l):bA d l=0:=by
 refine(oT d l).2 ⟨h.chk,h.len,fun k hk=>?_⟩
 have hx:=h.one _ (nG l default hk)
 have hasc:(decide ((k:Int) > 0)&&decide (aG (l.getD (IntKind.i64.wrap ((k:Int) - 1)).toNat default) (l.getD k default)≥0))=false:=by
  rw[Bool.and_eq_false_iff,decide_eq_false_iff_not,decide_eq_false_iff_not]
  by_cases hk0:0<k
  ·right
   have hl:=h.len
   rw[li (by omega) hk0,Int.toNat_natCast]
   have:=h.orders.asc (k - 1) (by omega)
   rw[show k - 1+1=k by omega]at this
   omega
  ·left;omega
 unfold cr
 rw[hasc]
 generalize l.getD k default=x at hx
 cases ho:x.outlet with
 |true=>
  have:=hx.farm ho
  simp only[cond_true]
  have e:(decide (x.hour<0) ||decide (x.hour≥d.hours) ||decide (x.index<0) ||decide (x.index≥(d.farms.length:Int)) ||decide (x.litres<1) ||decide (x.litres > 1073741824) ||false)=false:=by
   have:=hx.hour0;have:=hx.hour;have:=hx.index0;have:=hx.litres1;have:=hx.litres
   simp only[Bool.or_eq_false_iff,decide_eq_false_iff_not,and_true];omega
  rw[e];rfl
 |false=>
  have:=hx.reach ho
  simp only[cond_false]
  have e:(decide (x.hour<0) ||decide (x.hour≥d.hours) ||decide (x.index<0) ||decide (x.index≥(d.reaches.length:Int)) ||decide (x.litres<1) ||decide (x.litres > 1073741824) ||false)=false:=by
   have:=hx.hour0;have:=hx.hour;have:=hx.index0;have:=hx.litres1;have:=hx.litres
   simp only[Bool.or_eq_false_iff,decide_eq_false_iff_not,and_true];omega
  rw[e];rfl
structure Nar (d:District)(l:List Order):Prop where
 good:Good d l
 wide:(d.reaches.length:Int)*d.hours≤1024
theorem sS {d:District}(hr:Right1 d):0≤(d.reaches.length:Int)*d.hours∧(d.reaches.length:Int)*d.hours≤262144:=by
 have:=hr.reaches;have:=hr.hours;have:=hr.hours1
 have h1:=Int.mul_le_mul (by omega:(d.reaches.length:Int)≤64) hr.hours (by omega) (by omega)
 have h2:=Int.mul_nonneg (by omega:0≤(d.reaches.length:Int)) (by omega:0≤d.hours)
 omega
theorem og (d:District)(l:List Order):bq d l=0↔Nar d l:=by
 unfold bq
 by_cases h:bA d l=0
 ·have hg:=HA h
  have hm:=sS hg.right
  rw[bv (by omega) (by omega),h]
  by_cases hw:(d.reaches.length:Int)*d.hours > 1024
  ·rw[decide_eq_true hw]
   simp only[beq_self_eq_true,Bool.and_self,cond_true]
   exact⟨fun e=>(by cases e),fun e=>(by have:=e.wide;omega)⟩
  ·rw[decide_eq_false hw]
   simp only[Bool.and_false,cond_false]
   exact⟨fun _=>⟨hg,by omega⟩,fun _=>trivial⟩
 ·have:(bA d l==0)=false:=by rw[beq_eq_false_iff_ne];exact h
  rw[this]
  simp only[Bool.false_and,cond_false]
  exact⟨fun e=>absurd e h,fun e=>absurd (KO e.good) h⟩
structure PL (d:District)(out gs:List Order):Prop where
 good:Good d (srt aG (out++gs))
 fin:PFin d out gs
theorem vp {d:District}{out gs:List Order}(ho:Good d out)(hall:∀ x∈out,x.outlet=true)(h:PFin d out gs):(out++gs).Pairwise fun x y=>¬K x y:=by
 rw[List.pairwise_append]
 refine⟨ho.keys,h.uniq.imp fun {x y} q k=>q ⟨k.2.1,k.1⟩,fun x hx y hy k=>?_⟩
 have:=k.2.2
 rw[hall x hx,(h.gate y hy).out]at this
 cases this
theorem HB {d:District}{out gs:List Order}(ho:Good d out)(h:PFin d out gs):∀ x∈out++gs,Order1 d x:=fun x hx=>by
 rcases List.mem_append.1 hx with hx|hx
 ·exact ho.one x hx
 ·have g:=h.gate x hx
  have gl:=Ec ho.right g
  have hd:=lm ho.right (r:=x.index.toNat) (by have:=g.i0;have:=g.i1;omega)
  rw[show((x.index.toNat:Nat):Int)=x.index from Int.toNat_of_nonneg g.i0]at hd
  have:=g.h1
  exact⟨g.h0,by omega,g.i0,fun e=>(by rw[g.out]at e;cases e),fun _=>g.i1,gl.1,gl.2.1⟩
theorem uc (d:District)(out:List Order):
  (bq d out≠0∧an d out=([],false,bq d out))∨
  (Nar d out∧¬ (∀ x∈out,x.outlet=true)∧an d out=([],false,220))∨
  (Nar d out∧(∀ x∈out,x.outlet=true)∧(∃ gs r h,PX d out gs r h)∧an d out=([],false,0))∨
  (Nar d out∧(∀ x∈out,x.outlet=true)∧∃ gs,PFin d out gs∧4096< (out++gs).length∧an d out=([],false,2))∨
  (Nar d out∧(∀ x∈out,x.outlet=true)∧∃ gs,PL d out gs∧an d out=(srt aG (out++gs),true,0)):=by
 unfold an
 by_cases hn:bq d out=0
 ·have hN:=(og d out).1 hn
  have hr:=hN.good.right
  have ho:=hN.good.orders
  rw[hn]
  simp only[bne_self_eq_false,cond_false]
  obtain⟨f1,_,f3⟩:=sR hr ho
  by_cases hall:∀ x∈out,x.outlet=true
  ·obtain⟨m,hm⟩:=f3 hall
   rw[hm]
   simp only
   obtain⟨h1,_⟩:=zw hr ho (f1 m hm).2
   rcases h1 with⟨s,hs,gs,e1,e2⟩ | ⟨y,hy,hx⟩
   ·rw[hs]
    simp only[e1]
    by_cases hl:(out++gs).length≤4096
    ·rw[decide_eq_false (by omega)]
     refine .inr (.inr (.inr (.inr ⟨hN,hall,gs,⟨⟨hN.good.chk,?_,fun x hx=>HB hN.good e2 x ((rS _).mem_iff.1 hx),KN (vp hN.good hall e2)⟩,e2⟩,rfl⟩)))
     rw[(rS _).length_eq];exact hl
    ·rw[decide_eq_true (by omega)]
     exact .inr (.inr (.inr (.inl ⟨hN,hall,gs,e2,by omega,rfl⟩)))
   ·rw[hy]
    exact .inr (.inr (.inl ⟨hN,hall,hx,rfl⟩))
  ·cases hrun:ap (ba d out) out.length 0 []with
   |inr m=>exact absurd (f1 m hrun).1 hall
   |inl y=>exact .inr (.inl ⟨hN,hall,rfl⟩)
 ·have:(bq d out !=0)=true:=by simpa using hn
  rw[this]
  exact .inl ⟨hn,rfl⟩
theorem KP (d:District)(l:List Order):iG d l:=Ge d l
theorem QT (d:District)(out:List Order):kx d out:=by
 refine⟨KP _ _,fun hn=>?_⟩
 have hN:=(og d out).1 (by simpa using hn)
 have hr:=hN.good.right
 have ho:=hN.good.orders
 obtain⟨f1,f2,f3⟩:=sR hr ho
 refine fun _=>⟨f2,fun m hm=>⟨?_,?_,?_⟩⟩
 ·have:=ho.len;unfold dE;omega
 ·have:=hr.hours;omega
 ·obtain⟨h1,h2⟩:=zw hr ho (f1 m hm).2
  refine⟨h2,fun s hs _ _=>?_⟩
  rcases h1 with⟨s',hs',gs,e1,e2⟩ | ⟨y,hy,_⟩
  ·rw[hs']at hs
   cases hs
   rw[e1]
   exact KM (vp hN.good (f1 m hm).1 e2)
  ·rw[hy]at hs;cases hs
end Go.Sx
end
section
namespace Go.Sx
open Go.Proofs
variable {κ υ:Type}[DecidableEq κ]in
theorem Ed:∀ (l:List (κ×υ)) (x:κ) (y:υ) (e:κ×υ),e∈qK l x y→e=(x,y)∨e∈l
 | [],x,y,e,h=>by simp[qK]at h;exact .inl h
 |(a,b)::r,x,y,e,h=>by
  unfold qK at h
  by_cases q:x=a
  ·rw[if_pos q]at h
   rcases List.mem_cons.1 h with h|h
   ·exact .inl h
   ·exact .inr (List.mem_cons_of_mem _ h)
  ·rw[if_neg q]at h
   rcases List.mem_cons.1 h with h|h
   ·exact .inr (h▸List.mem_cons_self)
   ·rcases Ed r x y e h with h|h
    ·exact .inl h
    ·exact .inr (List.mem_cons_of_mem _ h)
variable {κ υ:Type}[DecidableEq κ]in
theorem Ee:∀ (l:List (κ×υ)) (x:κ) (y:υ),iQ l x=some y→(x,y)∈l
 |(a,b)::r,x,y,h=>by
  unfold iQ at h
  by_cases q:x=a
  ·rw[if_pos q]at h;cases h;subst q;exact List.mem_cons_self
  ·rw[if_neg q]at h;exact List.mem_cons_of_mem _ (Ee r x y h)
variable {κ υ:Type}[DecidableEq κ]in
theorem Gm {l:List (κ×υ)}(h:(l.map Prod.fst).Nodup)(x:κ)(y:υ):((qK l x y).map Prod.fst).Nodup:=by
 rw[wu]
 split
 ·exact h
 ·rename_i hn
  rw[List.nodup_append]
  exact⟨h,by simp,fun a ha b hb e=>by
   rw[List.mem_singleton]at hb
   subst hb;subst e
   exact hn ha⟩
structure SM (k:Tag)(f:k.T→Int)(m:List (k.T×Int)):Prop where
 get:∀ p,aK k .int m p=f p
 nd:(m.map Prod.fst).Nodup
 pos:∀ e∈m,1≤e.2
theorem SM.nil {k:Tag}:SM k (fun _=>0) []:=⟨fun _=>rfl,List.nodup_nil,fun _ h=>by cases h⟩
theorem SM.put {k:Tag}{f:k.T→Int}{m:List (k.T×Int)}(h:SM k f m)(x:k.T){v:Int}(hv:1≤v){g:k.T→Int}(hg:∀ p,g p=if p=x then v else f p):SM k g (c7 k .int m x v):=by
 refine⟨fun p=>?_,Gm h.nd x v,fun e he=>?_⟩
 ·rw[ik,h.get,hg]
 ·rcases Ed (υ:=Int) m x v e he with rfl|he
  ·exact hv
  ·exact h.pos e he
theorem SM.entry {k:Tag}{f:k.T→Int}{m:List (k.T×Int)}(h:SM k f m){e:k.T×Int}(he:e∈m):e.2=f e.1∧1≤f e.1:=by
 have h1:=DY m e h.nd he
 have h2:=h.get e.1
 unfold aK at h2
 rw[h1]at h2
 have h3:e.2=f e.1:=h2
 exact⟨h3,h3▸h.pos e he⟩
theorem SM.mem {k:Tag}{f:k.T→Int}{m:List (k.T×Int)}(h:SM k f m){p:k.T}(hp:f p≠0):(p,f p)∈m:=by
 have h2:=h.get p
 unfold aK at h2
 cases hm:iQ m p with
 |none=>rw[hm]at h2;exact absurd h2.symm hp
 |some v=>
  rw[hm]at h2
  have h3:v=f p:=h2
  exact h3▸Ee m p v hm
theorem SM.congr {k:Tag}{f g:k.T→Int}{m:List (k.T×Int)}(h:SM k f m)(e:∀ p,g p=f p):SM k g m:=⟨fun p=>by rw[h.get,e],h.nd,h.pos⟩
def gP (r h:Int)(x:Order):Bool:= !x.outlet&&x.index==r&&x.hour==h
def qh (l:List Order)(r h:Int):Int:=cp (gP r h) l
theorem KQ {r h:Int}{x y:Order}(hx:gP r h x=true)(hy:gP r h y=true):K x y:=by
 unfold gP at hx hy
 simp only[Bool.and_eq_true,Bool.not_eq_true',beq_iff_eq]at hx hy
 exact⟨by rw[hx.2,hy.2],by rw[hx.1.2,hy.1.2],by rw[hx.1.1,hy.1.1]⟩
theorem rT {p:Order→Bool}{l:List Order}(hk:l.Pairwise fun x y=>¬K x y)(hp:∀ x y,p x=true→p y=true→K x y){x:Order}(hx:x∈l)(h:p x=true):cp p l=x.litres:=by
 obtain⟨i,hi,rfl⟩:=List.getElem_of_mem hx
 refine Kq hi h fun j hj hne=>?_
 cases hq:p l[j]with
 |false=>rfl
 |true=>
  rw[List.pairwise_iff_getElem]at hk
  rcases Nat.lt_or_gt_of_ne hne with q|q
  ·exact absurd (hp _ _ hq h) (hk j i hj hi q)
  ·exact absurd (hp _ _ h hq) (hk i j hi hj q)
theorem KR {l:List Order}(hk:l.Pairwise fun x y=>¬K x y){x:Order}(hx:x∈l)(ho:x.outlet=false):qh l x.index x.hour=x.litres:=
 rT hk (fun _ _ h1 h2=>KQ h1 h2) hx (by unfold gP;rw[ho];simp)
theorem HC {p:Order→Bool}{l:List Order}(h:cp p l≠0):∃ x∈l,p x=true:=
 Classical.byContradiction fun q=>h (iJ fun x hx=>by
  cases hp:p x with
  |false=>rfl
  |true=>exact absurd ⟨x,hx,hp⟩ q)
theorem NT {l:List Order}(hk:l.Pairwise fun x y=>¬K x y){r h:Int}(hg:qh l r h≠0):∃ x∈l,x.outlet=false∧x.index=r∧x.hour=h∧x.litres=qh l r h:=by
 obtain⟨x,hx,hp⟩:=HC hg
 have:=rT hk (fun _ _ h1 h2=>KQ h1 h2) hx hp
 unfold gP at hp
 simp only[Bool.and_eq_true,Bool.not_eq_true',beq_iff_eq]at hp
 exact⟨x,hx,hp.1.1,hp.1.2,hp.2,this.symm⟩
def Kept (d:District)(l:List Order):Prop:= ∀ r h:Int,0≤r→1≤drw d l r h→∃ w,p9 (rch d r) (qh l r (h - (rch d r).delay))=(w,0)∧drw d l r h≤w
theorem QU {l m:List Order}(hp:m.Perm l)(hs:m.Pairwise olt):srt aG l=m:=by
 have hk:l.Pairwise fun x y=>¬K x y:=jg hp.symm (hs.imp fun {_ _} q=>zx q)
 exact List.Perm.eq_of_pairwise (fun a b _ _ h1 h2=>absurd h2 (fun h2=>by unfold olt at h1 h2;omega)) (KN hk) hs ((rS l).trans hp.symm)
structure Keeps (d:District)(l:List Order):Prop where
 good:Good d l
 sip:∀ x∈l,x.outlet=false→(rch d x.index).siphon≤x.litres
 kept:Kept d l
theorem CA {ρ σ:Type}{step:Nat→σ→ρ⊕σ}(J:Nat→σ→Prop):∀ (n i:Nat) (s:σ),J i s→(∀ j s,i≤j→j<i+n→J j s→∃ s',step j s=.inr s'∧J (j+1) s')→∃ s',ap step n i s=.inr s'∧J (i+n) s'
 |0,i,s,h,_=>⟨s,rfl,h⟩
 |n+1,i,s,h,hs=>by
  obtain⟨s1,e1,h1⟩:=hs i s (Nat.le_refl _) (by omega) h
  obtain⟨s2,e2,h2⟩:=CA J n (i+1) s1 h1 fun j s a b=>hs j s (by omega) (by omega)
  exact⟨s2,by simp only[ap,e1];exact e2,by rwa[show i+(n+1)=i+1+n by omega]⟩
end Go.Sx
end
section
namespace Go.Sx
open Go.Proofs
set_option maxRecDepth 100000
set_option linter.unusedSimpArgs false
def kY (t:CertifyTable)(reach:Int)(hour:Int):Int:=(p9 (t.d.reaches.getD (Int.toNat reach) (default:Reach)) (aK .certifyPlace .int t.litres ({ hour:=(IntKind.i64.wrap (hour - (t.d.reaches.getD (Int.toNat reach) (default:Reach)).delay)),index:=reach,outlet:=false}:CertifyPlace))).1
end Go.Sx
end
section
namespace Go.Sx
open Go.Proofs
set_option maxRecDepth 100000
set_option linter.unusedSimpArgs false
end Go.Sx
end
section
namespace Go.Sx
open Go.Proofs
set_option maxRecDepth 100000
set_option linter.unusedSimpArgs false
def tn (t:CertifyTable):List (Int×Int):=(List.range t.d.hours.toNat).flatMap fun(h:Nat) =>(List.range t.d.reaches.length).map fun(r:Nat) =>((h:Int),(r:Int))
end Go.Sx
end
section
namespace Go.Sx
open Go.Proofs
set_option maxRecDepth 100000
set_option linter.unusedSimpArgs false
def qM:List SV→Option Con:=pD .certifyTable fun t=>pE (.det True (.fn 154 [] [.ep (cellsOf .certifyTable t) 0]))
def qN:List SV→Option Con:=pD .certifyTable fun t=>pI fun k=>pE (.det True (.fn 126 [] [.ep (cellsOf .certifyTable t) 0,.ep [.i k] 0]))
def qO:List SV→Option Con:=pD .certifyTable fun t=>pR .claim fun c=>pE (.det True (.fn 128 [] [.ep [.rs .claim c] 0,.ep (cellsOf .certifyTable t) 0]))
attribute [go_sem] qM qN qO
end Go.Sx
end
section
namespace Go.Sx
open Go.Proofs
set_option maxRecDepth 100000
set_option linter.unusedSimpArgs false
@[go_sem] def oU (c_:List Claim)(k_0:Nat)(s_0:List (CertifyPlace×Int)):Empty⊕(List (CertifyPlace×Int)):=.inr (c7 .certifyPlace .int s_0 ({ hour:=(c_.getD k_0 (default:Claim)).hour,index:=(c_.getD k_0 (default:Claim)).farm,outlet:=true}:CertifyPlace) (IntKind.i64.wrap ((aK .certifyPlace .int s_0 ({ hour:=(c_.getD k_0 (default:Claim)).hour,index:=(c_.getD k_0 (default:Claim)).farm,outlet:=true}:CertifyPlace))+(c_.getD k_0 (default:Claim)).litres)))
end Go.Sx
end
section
namespace Go.Sx
open Go.Proofs
set_option maxRecDepth 100000
set_option linter.unusedSimpArgs false
end Go.Sx
end
section
namespace Go.Sx
open Go.Proofs
set_option maxRecDepth 100000
set_option linter.unusedSimpArgs false
end Go.Sx
end
section
namespace Go.Sx
open Go.Proofs
set_option maxRecDepth 100000
set_option linter.unusedSimpArgs false
end Go.Sx
end
section
namespace Go.Sx
open Go.Proofs
set_option maxRecDepth 100000
set_option linter.unusedSimpArgs false
end Go.Sx
end
section
namespace Go.Sx
open Go.Proofs
theorem KS {a b:Bool}(h:a=true↔b=true):a=b:=by cases a <;>cases b <;>simp_all
def Grid (g:List (List Int))(n m:Nat):Prop:=g.length=n∧∀ i,i<n→(g.getD i []).length=m
theorem Grid.app {g:List (List Int)}{n m:Nat}{r:List Int}(h:Grid g n m)(hr:r.length=m):Grid (g++[r]) (n+1) m:=by
 refine⟨by simp[h.1],fun i hi=>?_⟩
 by_cases e:i<n
 ·have:=h.2 i e
  simp only[List.getD_eq_getElem?_getD]at this ⊢
  rw[List.getElem?_append_left (by rw[h.1];exact e)]
  exact this
 ·have:i=g.length:=by have:=h.1;omega
  subst this
  simp[hr]
theorem Grid.set {g:List (List Int)}{n m i:Nat}{r:List Int}(h:Grid g n m)(hr:i<n→r.length=m):Grid (g.set i r) n m:=by
 refine⟨by simp[h.1],fun j hj=>?_⟩
 have h0:=h.2 j hj
 simp only[List.getD_eq_getElem?_getD]at h0 ⊢
 rw[List.getElem?_set]
 split
 ·rename_i e
  subst e
  split
  ·simpa using hr hj
  ·rename_i hn;exact absurd (by rw[h.1];exact hj) hn
 ·exact h0
theorem Grid.row {g:List (List Int)}{n m i:Nat}(h:Grid g n m)(hi:i<n):(g.getD i []).length=m:=h.2 i hi
structure Table1 (d:District)(l:List Order)(t:CertifyTable):Prop where
 td:t.d=d
 tl:t.l=l
 sums:Grid t.sums d.reaches.length (d.hours+1).toNat
 drawn:Grid t.drawn d.reaches.length d.hours.toNat
 ords:Orders1 d l
def gF (t:CertifyTable)(kind:Int)(k:Nat):List Fault:=
 bif(t.l.getD k default).outlet then []else
 bif kind==2 then
  bif decide ((t.l.getD k default).litres< (t.d.reaches.getD (t.l.getD k default).index.toNat default).siphon)then
   [{ kind:=kind,hour:=(t.l.getD k default).hour,index:=(t.l.getD k default).index,litres:=(t.l.getD k default).litres,limit:=(t.d.reaches.getD (t.l.getD k default).index.toNat default).siphon}]else []
 else
  bif decide ((t.l.getD k default).litres > (t.d.reaches.getD (t.l.getD k default).index.toNat default).cap)then
   [{ kind:=kind,hour:=(t.l.getD k default).hour,index:=(t.l.getD k default).index,litres:=(t.l.getD k default).litres,limit:=(t.d.reaches.getD (t.l.getD k default).index.toNat default).cap}]else []
def KT (t:CertifyTable)(z:Int×Int):Int:=
 IntKind.i64.wrap ((t.sums.getD z.2.toNat default).getD (IntKind.i64.wrap (z.1+1)).toNat 0 - (t.sums.getD z.2.toNat default).getD (if 0<IntKind.i64.wrap (IntKind.i64.wrap (z.1+1) - (t.d.reaches.getD z.2.toNat default).delay)then IntKind.i64.wrap (IntKind.i64.wrap (z.1+1) - (t.d.reaches.getD z.2.toNat default).delay)else 0).toNat 0)
def bF (t:CertifyTable)(z:Int×Int):List Fault:=
 bif decide (KT t z > (t.d.reaches.getD z.2.toNat default).bank)then [{ kind:=3,hour:=z.1,index:=z.2,litres:=KT t z,limit:=(t.d.reaches.getD z.2.toNat default).bank}]else []
def wF (t:CertifyTable)(z:Int×Int):List Fault:=
 bif decide ((t.drawn.getD z.2.toNat default).getD z.1.toNat 0 > kY t z.2 z.1)then [{ kind:=5,hour:=z.1,index:=z.2,litres:=(t.drawn.getD z.2.toNat default).getD z.1.toNat 0,limit:=kY t z.2 z.1}]else []
def uF (t:CertifyTable)(m:List (CertifyPlace×Int))(h f:Nat):List Fault:=
 bif decide (aK Tag.certifyPlace Tag.int t.litres { hour:=(h:Int),index:=(f:Int),outlet:=true} <aK Tag.certifyPlace Tag.int m { hour:=(h:Int),index:=(f:Int),outlet:=true})then
  [{ kind:=6,hour:=(h:Int),index:=(f:Int),litres:=aK Tag.certifyPlace Tag.int t.litres { hour:=(h:Int),index:=(f:Int),outlet:=true},limit:=aK Tag.certifyPlace Tag.int m { hour:=(h:Int),index:=(f:Int),outlet:=true}}]else []
theorem IA (d:District)(c:List Claim):kv d c:=fun _ h1 _ _=>jt _ _ _ fun j s h2 h3=>by
 unfold a7 at h1
 unfold hU
 refine⟨fun h=>?_,fun h=>?_,fun _ h=>?_⟩
 ·simp only[Bool.not_eq_false',Bool.and_eq_true,decide_eq_true_eq]at h
  omega
 ·simp only[Bool.or_eq_false_iff,Bool.not_eq_false',Bool.and_eq_true,decide_eq_true_eq]at h
  omega
 ·simp only[decide_eq_true_eq]at h
  rw[li (by omega) (by omega)];omega
theorem CB (d:District)(c:List Claim):bu d c=0↔bt d=0∧c.length≤4096∧∀ k,k<c.length→dn d c k ()=.inr ():=by
 unfold bu
 cases h1:(bt d !=0)with
 |true=>simp at h1;simp[h1]
 |false=>
  simp at h1
  simp only[cond_false,h1,true_and]
  cases h2:decide ((c.length:Int) > 4096)with
  |true=>simp at h2;simp;omega
  |false=>
   simp at h2
   rw[←er]
   cases h3:ap (dn d c) c.length 0 ()with
   |inl y=>simp
   |inr y=>simp;omega
def KU (c:List Claim):List (CertifyPlace×Int):=match ap (oU c) c.length 0 []with| .inl x=>x.elim| .inr m=>m
structure Quiet (t:CertifyTable)(c:List Claim):Prop where
 gate:∀ k,k<t.l.length→gF t 1 k=[]
 siph:∀ k,k<t.l.length→gF t 2 k=[]
 bank:∀ z∈tn t,bF t z=[]
 tank:∀ j,j<t.d.hours.toNat→¬ ((t.sums.getD 0 (default:List Int)).getD (IntKind.i64.wrap ((j:Int)+1)).toNat 0 > t.d.tank.start)
 water:∀ z∈tn t,wF t z=[]
 unmet:∀ h,h<t.d.hours.toNat→∀ f,f<t.d.farms.length→uF t (KU c) h f=[]
def fY (a b:Claim):Prop:=a.hour<b.hour∨a.hour=b.hour∧(a.rank<b.rank∨a.rank=b.rank∧(a.right<b.right∨a.right=b.right∧a.farm<b.farm))
theorem zy {a b c:Claim}(h1:fY a b)(h2:fY b c):fY a c:=by
 unfold fY at *;omega
theorem QV (a b c d:Int):ku [a,b,c,d]=if a≠0 then a else if b≠0 then b else if c≠0 then c else d:=by
 unfold ku
 simp only[List.length_cons,List.length_nil,Nat.zero_add,Nat.reduceAdd,ap,mO,List.getD_cons_zero,List.getD_cons_succ]
 by_cases h1:a=0 <;>by_cases h2:b=0 <;>by_cases h3:c=0 <;>by_cases h4:d=0 <;>simp[h1,h2,h3,h4,Bool.cond_eq_ite]
theorem IB (a b:Claim):iH a b<0↔fY a b:=by
 unfold iH fY
 rw[QV]
 simp only[fJ]
 repeat' split
 all_goals (first|omega|skip)
def okC (d:District)(a:Claim):Bool:=(((((((((decide (a.right≥0))&&(decide (a.right< (d.rights.length:Int))))&&(decide (a.farm≥0)))&&(decide (a.farm< (d.farms.length:Int))))&&(decide (a.hour≥0)))&&(decide (a.hour<d.hours)))&&(decide (a.litres≥1)))&&(decide (a.litres≤1073741824))))&&((d.rights.getD a.right.toNat default).kind==1)&&((d.rights.getD a.right.toNat default).rank==a.rank)
theorem rU {d:District}{c:List Claim}{k:Nat}(hk:k<4096):dn d c k ()=.inr ()↔okC d (c.getD k default)=true∧(0<k→fY (c.getD (k - 1) default) (c.getD k default)):=by
 have hw:k > 0→(IntKind.i64.wrap ((k:Int) - 1)).toNat=k - 1:=fun h=>by rw[li (by omega) h];simp
 have hb:∀ X:Bool,((bif X then Sum.inl ()else Sum.inr ()):Unit⊕Unit)=.inr ()↔X=false:=fun X=>by cases X <;>simp
 unfold dn okC
 rw[hb]
 generalize hq:((((((((decide ((c.getD k default).right≥0))&&(decide ((c.getD k default).right< (d.rights.length:Int))))&&(decide ((c.getD k default).farm≥0)))&&(decide ((c.getD k default).farm< (d.farms.length:Int))))&&(decide ((c.getD k default).hour≥0)))&&(decide ((c.getD k default).hour<d.hours)))&&(decide ((c.getD k default).litres≥1)))&&(decide ((c.getD k default).litres≤1073741824)))=q
 clear hq
 by_cases h0:0<k
 ·rw[hw h0,←IB]
  have hp:decide ((k:Int) > 0)=true:=by simp;omega
  rw[hp]
  simp only[Bool.or_eq_false_iff,Bool.and_eq_true,Bool.not_eq_false',Bool.true_and,bne_eq_false_iff_eq,beq_iff_eq,decide_eq_false_iff_not,h0,true_imp_iff]
  generalize iH (c.getD (k - 1) default) (c.getD k default)=z
  constructor
  ·rintro⟨⟨⟨h1,h2⟩,h3⟩,h4⟩;exact⟨⟨⟨h1,h2⟩,h3⟩,by omega⟩
  ·rintro⟨⟨⟨h1,h2⟩,h3⟩,h4⟩;exact⟨⟨⟨h1,h2⟩,h3⟩,by omega⟩
 ·have hp:decide ((k:Int) > 0)=false:=by simp;omega
  rw[hp]
  simp only[Bool.or_eq_false_iff,Bool.and_eq_true,Bool.not_eq_false',Bool.false_and,bne_eq_false_iff_eq,beq_iff_eq,h0,false_imp_iff,and_true]
theorem jL (d:District)(c:List Claim):bu d c=0↔bt d=0∧c.length≤4096∧(∀ a∈c,okC d a=true)∧c.Pairwise fY:=by
 rw[CB]
 refine and_congr_right fun _=>and_congr_right fun hl=>?_
 constructor
 ·intro h
  have hs:=fun k hk=>(rU (by omega)).1 (h k hk)
  refine⟨fun a ha=>?_,?_⟩
  ·obtain⟨k,hk,rfl⟩:=List.getElem_of_mem ha
   have:=(hs k hk).1
   rwa[cm _ _ hk]at this
  ·have key:∀ (k j:Nat),j<k→k<c.length→fY (c.getD j default) (c.getD k default):=by
    intro k
    induction k with
    |zero=>intro j h1;omega
    |succ k ih=>
     intro j h1 h2
     have h3:=(hs (k+1) h2).2 (by omega)
     rw[Nat.add_sub_cancel]at h3
     by_cases e:j=k
     ·subst e;exact h3
     ·exact zy (ih j (by omega) (by omega)) h3
   rw[List.pairwise_iff_getElem]
   intro i j hi hj hij
   have:=key j i hij hj
   rwa[cm _ _ hi,cm _ _ hj]at this
 ·rintro⟨h1,h2⟩ k hk
  refine(rU (by omega)).2 ⟨?_,fun h0=>?_⟩
  ·rw[cm _ _ hk];exact h1 _ (List.getElem_mem _)
  ·rw[cm _ _ hk,cm _ _ (by omega:k - 1<c.length)]
   exact List.pairwise_iff_getElem.1 h2 _ _ _ _ (by omega)
def oV (a:Claim):CertifyPlace:= { hour:=a.hour,index:=a.farm,outlet:=true}
def f0 (p:CertifyPlace):List Claim→Int
 | [] =>0
 |a::r=>(if p=oV a then a.litres else 0)+f0 p r
theorem Ef (p:CertifyPlace)(a b:List Claim):f0 p (a++b)=f0 p a+f0 p b:=by
 induction a with
 |nil=>simp[f0]
 |cons x r ih=>simp only[List.cons_append,f0,ih];omega
theorem AB (p:CertifyPlace)(c:List Claim)(h:∀ a∈c,1≤a.litres∧a.litres≤1073741824):0≤f0 p c∧f0 p c≤c.length*1073741824:=by
 induction c with
 |nil=>simp[f0]
 |cons x r ih=>
  have h1:=ih fun a ha=>h a (List.mem_cons_of_mem _ ha)
  have h2:=h x List.mem_cons_self
  simp only[f0,List.length_cons]
  split <;>omega
theorem Gn {d:District}{a:Claim}(h:okC d a=true):1≤a.litres∧a.litres≤1073741824:=by
 unfold okC at h
 simp only[Bool.and_eq_true,decide_eq_true_eq]at h
 omega
def dc (reach a b:Int)(x:Order):Bool:=(!x.outlet&&x.index==reach)&&decide (x.hour≥a)&&decide (x.hour≤b)
def Eg (farm hour:Int)(x:Order):Bool:=(x.outlet&&x.index==farm)&&x.hour==hour
theorem iK {α:Type}(l:List α)(d r:α)(i k:Nat)(hi:i<l.length):(l.set i r).getD k d=if k=i then r else l.getD k d:=by
 rw[List.getD_eq_getElem?_getD,List.getElem?_set,List.getD_eq_getElem?_getD]
 by_cases h:k=i
 ·subst h;simp[hi]
 ·rw[if_neg (fun e=>h e.symm),if_neg h]
def cell (g:List (List Int))(i j:Nat):Int:=(g.getD i []).getD j 0
def KV (h i:Int)(o:Bool)(x:Order):Bool:=(x.hour==h&&x.index==i)&&x.outlet==o
structure T1 (d:District)(pre:List Order)(s:List (CertifyPlace×Int)×List (List Int)×List (List Int)):Prop where
 lit:∀ h i o,aK .certifyPlace .int s.1 { hour:=h,index:=i,outlet:=o} =cp (KV h i o) pre
 gd:Grid s.2.1 d.reaches.length d.hours.toNat
 gs:Grid s.2.2 d.reaches.length (d.hours+1).toNat
 drawn:∀ r h,r<d.reaches.length→h<d.hours.toNat→cell s.2.1 r h=cp (jf d r h) pre
 sums:∀ r t,r<d.reaches.length→t< (d.hours+1).toNat→cell s.2.2 r t=cp (dc r ((t:Int) - 1) ((t:Int) - 1)) pre
theorem IC {d:District}{l:List Order}(ho:Orders1 d l){j:Nat}(hj:j<l.length){p:Order→Bool}(hp:∀ x,p x=true→x.hour=l[j].hour∧x.index=l[j].index∧x.outlet=l[j].outlet):cp p (l.take j)=0:=
 iJ fun x hx=>by
  obtain⟨i,hi,rfl⟩:=List.getElem_of_mem hx
  rw[List.length_take]at hi
  rw[List.getElem_take]
  cases h:p l[i]with
  |false=>rfl
  |true=>
   obtain⟨e1,e2,e3⟩:=hp _ h
   have:=ho.uniq (by omega) hj e1 e2 e3
   omega
theorem HD {d:District}{l:List Order}(ho:Orders1 d l)(p:Order→Bool)(j:Nat):0≤cp p (l.take j)∧cp p (l.take j)≤4398046511104:=by
 have hb:=oc (p:=p) fun a ha=>ho.lit a (List.mem_of_mem_take (i:=j) ha)
 have hl:=ho.len
 have hb3:(l.take j).length≤4096:=by rw[List.length_take];omega
 omega
theorem KW {d:District}{l:List Order}(ho:Orders1 d l)(p:Order→Bool):0≤cp p l∧cp p l≤4398046511104:=by
 have:=HD ho p l.length
 rwa[List.take_length]at this
structure Table2 (d:District)(l:List Order)(t:CertifyTable):Prop where
 lit:∀ h i o,aK .certifyPlace .int t.litres { hour:=h,index:=i,outlet:=o} =cp (KV h i o) l
 drawn:∀ r h,r<d.reaches.length→h<d.hours.toNat→cell t.drawn r h=cp (jf d r h) l
 sums:∀ r j,r<d.reaches.length→j< (d.hours+1).toNat→cell t.sums r j=cp (dc r 0 ((j:Int) - 1)) l
structure Sure (d:District)(c:List Claim)(l:List Order):Prop where
 ho:Orders1 d l
 clen:c.length≤4096
 okc:∀ a∈c,okC d a=true
 cap:∀ r h:Nat,r<d.reaches.length→cp (dc r h h) l≤(d.reaches.getD r default).cap
 bank:∀ r h:Nat,r<d.reaches.length→h<d.hours.toNat→cp (dc r ((h:Int) - (d.reaches.getD r default).delay+1) h) l≤(d.reaches.getD r default).bank
 tank:∀ h:Nat,h<d.hours.toNat→cp (dc (0:Nat) 0 h) l≤d.tank.start
 water:∀ r h:Nat,r<d.reaches.length→h<d.hours.toNat→cp (jf d r h) l≤(p9 (d.reaches.getD r default) (cp (dc r ((h:Int) - (d.reaches.getD r default).delay) ((h:Int) - (d.reaches.getD r default).delay)) l)).1
 unmet:∀ h f:Nat,h<d.hours.toNat→f<d.farms.length→f0 { hour:=(h:Int),index:=(f:Int),outlet:=true} c≤cp (Eg f h) l
theorem KX {d:District}{l:List Order}(ho:Orders1 d l)(r:Int){a m b:Int}(h1:a≤m)(h2:m≤b+1):cp (dc r a (m - 1)) l+cp (dc r m b) l=cp (dc r a b) l:=DX fun x _=>by
 unfold dc
 cases(!x.outlet&&x.index==r)
 ·simp
 ·simp only[Bool.true_and]
  constructor
  ·refine KS ?_
   simp only[Bool.or_eq_true,Bool.and_eq_true,decide_eq_true_eq];omega
  ·rw[Bool.eq_false_iff]
   simp only[ne_eq,Bool.and_eq_true,decide_eq_true_eq];omega
end Go.Sx
end
section
namespace Go.Sx
open Go.Proofs
set_option maxRecDepth 100000
set_option linter.unusedSimpArgs false
theorem Eh {p:Prop}(h:p:=by(first|done|(repeat' (first|with_reducible refine And.intro ?_ ?_|((with_reducible show _≠_);first|assumption|omega|(simp_all [aX,bf];done) |grind) |with_reducible intro _)) <;>(first|done|exact Empty.elim ‹Empty› |assumption|rfl|omega|decide|exact fk [0,1,5] |exact fk [0,1,2] |exact czl|(simp only[*,cond_true,cond_false,Bool.not_true,Bool.not_false,go_sem,Nat.reduceBEq,Nat.reduceLeDiff,Nat.reduceLT,decide_true,Nat.reduceAdd,Nat.reduceSub,Nat.reduceMul,Int.reduceLE,Int.reduceLT,Int.reduceToNat,Int.reduceNeg,reduceCtorEq];(repeat' (first|with_reducible refine And.intro ?_ ?_|((with_reducible show _≠_);first|assumption|omega|(simp_all [aX,bf];done) |grind) |with_reducible intro _)) <;>(first|done|assumption|rfl|omega|decide|exact fk [0,1,5] |exact fk [0,1,2] |(simp_all [aX,bf];done))) |(simp_all [okI,aX,bf];done) |(simp_all [aX,bf];(first|done|exact fk2 [0,1,5] |exact fk2 [0,1,2])) |exact fk2 [0,1,5] |exact fk2 [0,1,2]))):p:=h
@[go_sem] def bV (c:List Claim)(k_0:Nat)(s_0:List (TimetableSlot×Int)):Empty⊕(List (TimetableSlot×Int)):=.inr (c7 .timetableSlot .int s_0 ({ index:=(c.getD k_0 (default:Claim)).farm,hour:=(c.getD k_0 (default:Claim)).hour}:TimetableSlot) (IntKind.i64.wrap ((aK .timetableSlot .int s_0 ({ index:=(c.getD k_0 (default:Claim)).farm,hour:=(c.getD k_0 (default:Claim)).hour}:TimetableSlot))+(c.getD k_0 (default:Claim)).litres)))
@[go_sem] def cJ (s_0:List (TimetableSlot×Int))(k_1:TimetableSlot×Int)(s_1:List Order):Empty⊕(List Order):=.inr (s_1++([({ hour:=k_1.1.hour,index:=k_1.1.index,litres:=k_1.2,outlet:=true}:Order)]))
def dY (s_0:List (TimetableSlot×Int))(k_1:TimetableSlot×Int)(s_1:List Order):Prop:=((s_1++([({ hour:=k_1.1.hour,index:=k_1.1.index,litres:=k_1.2,outlet:=true}:Order)])).length*32≤dE)
def ar (c:List Claim):List Order:=(match ap (bV c) c.length 0 ([])with| .inl x=>x.elim| .inr s_0=>(match cI (cJ s_0) s_0 ([])with| .inl x=>x.elim| .inr s_1=>(srt aq s_1)))
def f5 (c:List Claim):Prop:=(c.length≤a7→(∀ s_0,ap (bV c) c.length 0 ([])=.inr s_0→(∀ L_1,L_1.Perm s_0→(okL (cJ s_0) (dY s_0) L_1 ([])∧(∀ s_1,cI (cJ s_0) L_1 ([])=.inr s_1→((apart aq s_1)∧((srt aq s_1)=(ar c))))))))
@[go_sem] def iY:List SV→Option Con:=(pR .claim fun c=>(pE (.det (f5 c) (.nw .order (ar c)))))
theorem my:FnOk Tryz.prog 63 iY:=by
 have hG:ConsOk Tryz.prog (mkG [] [(97,jK)]):=aC cg0 (cgc w_ cg0)
 refine p7 true mixed ax hG (fn:=Tryz.f63) (c:=aa Tryz.f63) (by kernel_rfl) (by kernel_rfl) (by kernel_rfl) (by kernel_rfl) (cj fun c=>(aB (fun hp=>?_)))
 dsimp only[aD]at hp
 unfold f5 at hp
 refine⟨Nat.le_of_ble_eq_true rfl,(fun id st=>bif Nat.beq id 0 then some (LCR (ρ:=Empty) (σ:=(List (TimetableSlot×Int))) 1 [] [0] (fun k_0 s_0=>⟨[(2,.v (.slice none 0 0)),(3,.os 0),(9,.rs .claim c),(10,.v (.int .i64 (c.length:Int))),(11,.v (.int .i64 (k_0:Int)))],[.mp .timetableSlot .int s_0 none]⟩) (bV c) pT c.length ([]) (c.length≤a7) ((·.elim)) ((·.elim)) st)else bif Nat.beq id 2 then some (LCP (τ:=TimetableSlot×Int) (ρ:=Empty) (σ:=(List Order)) 2 [.slot 2 (.row .order ([]))] [0,1,2] (fun left_1 cur_1 s_1=>⟨[(2,.os 2),(29,.ptr 1 0)],[.mp .timetableSlot .int (aX (ap (bV c) c.length 0 ([]))) none,.mi (some 0) (aX (ap (bV c) c.length 0 ([]))).length left_1 cur_1,.row .order s_1]⟩) (cJ (aX (ap (bV c) c.length 0 ([])))) (dY (aX (ap (bV c) c.length 0 ([])))) (aX (ap (bV c) c.length 0 ([]))) ([]) ((·.elim)) ((·.elim)) (fun s_1=>⟨[(2,.os 2)],[.dead,.dead,.row .order s_1]⟩) st)else none),?_,?_⟩
 ·unfold aa Tryz.f63
  simp only[ay,true_and,and_true]
  refine⟨?_,?_⟩
  ·refine dB mixed ax hG (by kernel_rfl) (fun _=>rfl) (c.length:Int) rfl g7 (fun hb0 k_0 s_0 hlt0 _ hw hc=>⟨L0,ak _,?_⟩) (fun hb0 s_0 hc=>?_)
   ·exact fv
   ·exact fw
  ·refine KI (dW .timetableSlot,dW .int) 1 mixed ax hG (by kernel_rfl) (fun _=>rfl) fun left_1 cur_1 s_1 hp1=>⟨L0,ak _,?_⟩
   ·by_cases hl1:left_1=[]
    ·subst hl1
     simp only[go_sem,Nat.reduceBEq,Nat.reduceLeDiff,Nat.reduceLT,decide_true,Nat.reduceAdd,Nat.reduceSub,Nat.reduceMul,Int.reduceLE,Int.reduceLT,Int.reduceToNat,Int.reduceNeg,reduceCtorEq,List.not_mem_nil]
     all_goals exact Eh
    ·simp only[go_sem,Nat.reduceBEq,Nat.reduceLeDiff,Nat.reduceLT,decide_true,Nat.reduceAdd,Nat.reduceSub,Nat.reduceMul,Int.reduceLE,Int.reduceLT,Int.reduceToNat,Int.reduceNeg,reduceCtorEq,hl1]
     intro j hj1
     obtain⟨hlt1,hq1⟩:=hp1 j hj1
     unfold dY at hq1
     all_goals exact Eh
 ·unfold aa Tryz.f63
  simp only[go_sem,Nat.reduceBEq,Nat.reduceLeDiff,Nat.reduceLT,decide_true,Nat.reduceAdd,Nat.reduceSub,Nat.reduceMul,Int.reduceLE,Int.reduceLT,Int.reduceToNat,Int.reduceNeg,reduceCtorEq]
  all_goals exact clP
@[go_sem] def aZ (s_:List Order)(k_0:Nat)(s_0:Unit):Int⊕Unit:=(bif(kw (s_.getD k_0 (default:Order)))then .inl (k_0:Int)else .inr ())
def cq (s_:List Order):Int:=(match ap (aZ s_) s_.length 0 ()with| .inl x_0_0=>x_0_0| .inr s_0=>(-1))
@[go_sem] def eH:List SV→Option Con:=(pR .order fun s_=>(pFn 65 (pE ((pE (.det True (.v (.int .i64 (cq s_)))))))))
theorem h_:FnOk Tryz.prog 109 eH:=by
 have hG:ConsOk Tryz.prog (mkG [(65,mY)] []):=aC (cgc rP cg0) cg0
 refine aI [.o] mixed ax hG (fn:=Tryz.f109) (c:=aa Tryz.f109) (by kernel_rfl) (by kernel_rfl) (by kernel_rfl) (by kernel_rfl) (cj fun s_=>(kf (aB ((aB (fun hp=>?_))))))
 dsimp only[aD]at hp
 refine⟨Nat.le_of_ble_eq_true rfl,(fun id st=>bif Nat.beq id 0 then some (LCR (ρ:=Int) (σ:=Unit) 0 [] [] (fun k_0 s_0=>⟨[(0,.rs .order s_),(1,.fn 65 [] []),(7,.v (.int .i64 (s_.length:Int))),(8,.v (.int .i64 (k_0:Int)))],[]⟩) (aZ s_) pT s_.length () (s_.length≤a7) (fun _=>.ret) (fun x_0_0=>⟨[(4,.v (.int .i64 x_0_0))],[]⟩) st)else none),?_,?_⟩
 ·unfold aa Tryz.f109
  simp only[ay,true_and,and_true]
  ·refine dB mixed ax hG (by kernel_rfl) (fun _=>rfl) (s_.length:Int) rfl g7 (fun hb0 k_0 s_0 hlt0 _ hw hc=>⟨L0,ak _,?_⟩) (fun hb0 s_0 hc=>?_)
   ·exact mt
   ·exact mu
 ·unfold aa Tryz.f109
  try unfold cq
  simp only[go_sem,Nat.reduceBEq,Nat.reduceLeDiff,Nat.reduceLT,decide_true,Nat.reduceAdd,Nat.reduceSub,Nat.reduceMul,Int.reduceLE,Int.reduceLT,Int.reduceToNat,Int.reduceNeg,reduceCtorEq]
  all_goals exact cl
def aJ (s_:List Order):Bool:=(decide ((cq s_)≥0))
@[go_sem] def cP:List SV→Option Con:=(pR .order fun s_=>(pFn 65 (pE ((pE (.det True (.v (.bool (aJ s_)))))))))
theorem dZ:FnOk Tryz.prog 64 cP:=by
 have hG:ConsOk Tryz.prog (mkG [(109,fun l=>eH (cn [.sl .order,.o] l))] []):=aC (cgc (h_.norm [.sl .order,.o]) cg0) cg0
 refine aI [.o] mixed ax hG (fn:=Tryz.f64) (c:=aa Tryz.f64) (by kernel_rfl) (by kernel_rfl) (by kernel_rfl) (by kernel_rfl) (cj fun s_=>(kf (aB ((aB (fun hp=>?_))))))
 dsimp only[aD]at hp
 refine⟨Nat.le_of_ble_eq_true rfl,L0,ak _,?_⟩
 ·unfold aa Tryz.f64
  try unfold aJ
  simp only[go_sem,Nat.reduceBEq,Nat.reduceLeDiff,Nat.reduceLT,decide_true,Nat.reduceAdd,Nat.reduceSub,Nat.reduceMul,Int.reduceLE,Int.reduceLT,Int.reduceToNat,Int.reduceNeg,reduceCtorEq]
  all_goals exact cl
def aj (d:District)(c:List Claim):List Order×Int:=(bif((bu d c) !=0)then([],(bu d c))else(bif(decide ((IntKind.i64.wrap ((d.reaches.length:Int)*d.hours)) > 1024))then([],2)else(bif(aJ (ar c))then([],270)else((ar c),0))))
def d4 (d:District)(c:List Claim):Prop:=((kv d c)∧(((bu d c) !=0)=false→(d.reaches.length≤a7→((decide ((IntKind.i64.wrap ((d.reaches.length:Int)*d.hours)) > 1024))=false→(f5 c)))))
@[go_sem] def ky:List SV→Option Con:=(pD .district fun d=>(pR .claim fun c=>(pE (.det (d4 d c) (.tup [.rs .order ((aj d c).1),.v (.int .i64 ((aj d c).2))])))))
theorem oh:FnOk Tryz.prog 33 ky:=by
 have hG:ConsOk Tryz.prog (mkG [(24,fun l=>oa (cn [.st .district,.sl .claim] l)),(63,fun l=>iY (cn [.sl .claim] l)),(64,fun l=>cP (cn [.sl .order,.o] l))] []):=aC (cgc (qz.norm [.st .district,.sl .claim]) (cgc (my.norm [.sl .claim]) (cgc (dZ.norm [.sl .order,.o]) cg0))) cg0
 refine aI [.sl .order,.o] mixed ax hG (fn:=Tryz.f33) (c:=aa Tryz.f33) (by kernel_rfl) (by kernel_rfl) (by kernel_rfl) (by kernel_rfl) (aN fun d=>(cj fun c=>(aB (fun hp=>?_))))
 dsimp only[aD]at hp
 unfold d4 at hp
 refine⟨Nat.le_of_ble_eq_true rfl,L0,ak _,?_⟩
 ·unfold aa Tryz.f33
  try unfold aj
  simp only[go_sem,Nat.reduceBEq,Nat.reduceLeDiff,Nat.reduceLT,decide_true,Nat.reduceAdd,Nat.reduceSub,Nat.reduceMul,Int.reduceLE,Int.reduceLT,Int.reduceToNat,Int.reduceNeg,reduceCtorEq]
  all_goals exact cl
end Go.Sx
end
section
namespace Go.Sx
open Go.Proofs Go.Shelf Go.Sort Go.Lib
def oP (f h:Int):CertifyPlace:= { hour:=h,index:=f,outlet:=true}
def kz (c:List Claim)(f h:Int):Int:=f0 (oP f h) c
def okL1 (c:List Claim):Prop:=c.length≤4096∧∀ a∈c,1≤a.litres∧a.litres≤1073741824
theorem Bu {c:List Claim}{j:Nat}(hj:j<c.length)(f h:Int):kz (c.take (j+1)) f h=kz (c.take j) f h+(if oP f h=oV c[j]then c[j].litres else 0):=by
 unfold kz
 rw[List.take_succ_eq_append_getElem hj,Ef]
 simp[f0]
theorem CC {c:List Claim}(h:okL1 c)(f t:Int):0≤kz c f t∧kz c f t≤4398046511104:=by
 have h1:=AB (oP f t) c h.2
 have h2:=h.1
 unfold kz
 omega
theorem okL1.take {c:List Claim}(h:okL1 c)(j:Nat):okL1 (c.take j):=⟨by rw[List.length_take];have:=h.1;omega,fun a ha=>h.2 a (List.mem_of_mem_take ha)⟩
theorem KY {k:Tag}(m:List (k.T×Int))(x:k.T)(y:Int):(c7 k .int m x y).length≤m.length+1:=by
 have:=congrArg List.length (wu m x y)
 rw[List.length_map]at this
 show(qK m x y).length≤_
 rw[this]
 split
 ·rw[List.length_map];omega
 ·simp
theorem HE {c:List Claim}(h:okL1 c):∃ m,ap (bV c) c.length 0 []=.inr m∧SM .timetableSlot (fun p=>kz c p.index p.hour) m∧m.length≤c.length:=by
 obtain⟨m,e,hm,hn⟩:=CA (step:=bV c) (fun j m=>SM .timetableSlot (fun p=>kz (c.take j) p.index p.hour) m∧m.length≤j) c.length 0 [] ⟨by simpa[kz,f0]using SM.nil,Nat.le_refl _⟩ (fun j m _ hj ⟨hm,hn⟩ =>by
  have hj:j<c.length:=by omega
  refine⟨_,rfl,?_,Nat.le_trans (KY _ _ _) (by omega)⟩
  rw[cm _ _ hj]
  have h1:=CC (h.take j) c[j].farm c[j].hour
  have h2:=h.2 _ (List.getElem_mem hj)
  have h3:=hm.get ({ index:=c[j].farm,hour:=c[j].hour}:TimetableSlot)
  simp only at h3
  refine hm.put _ (v:=_) ?_ fun p=>?_
  ·rw[h3,bv (by omega) (by omega)];omega
  ·rw[h3,bv (by omega) (by omega),Bu hj]
   by_cases hp:p=({ index:=c[j].farm,hour:=c[j].hour}:TimetableSlot)
   ·subst hp
    rw[if_pos rfl,if_pos (by rfl)]
   ·rw[if_neg hp,if_neg (fun q=>hp (by
     unfold oP oV at q
     simp only[CertifyPlace.mk.injEq]at q
     obtain⟨a,b⟩:=p
     simp only[TimetableSlot.mk.injEq]
     exact⟨q.2.1,q.1⟩))]
    exact Int.add_zero _)
 rw[Nat.zero_add]at hm hn
 rw[List.take_length]at hm
 exact⟨m,e,hm,hn⟩
def toO (e:TimetableSlot×Int):Order:= { hour:=e.1.hour,index:=e.1.index,litres:=e.2,outlet:=true}
theorem vr (m:List (TimetableSlot×Int)):∀ (L:List (TimetableSlot×Int)) (s:List Order),cI (cJ m) L s=.inr (s++L.map toO)
 | [],s=>by simp[cI]
 |x::L,s=>by
  have e:cJ m x s=.inr (s++[toO x]):=rfl
  simp only[cI,e]
  rw[vr m L]
  simp
theorem Bv (m:List (TimetableSlot×Int)):∀ (L:List (TimetableSlot×Int)) (s:List Order),s.length+L.length≤100000→okL (cJ m) (dY m) L s
 | [],s,_=>trivial
 |x::L,s,h=>by
  have e:cJ m x s=.inr (s++[toO x]):=rfl
  rw[List.length_cons]at h
  refine⟨?_,fun s' hs=>?_⟩
  ·unfold dY dE
   rw[List.length_append]
   simp only[List.length_cons,List.length_nil]
   omega
  ·rw[e]at hs
   simp only[Sum.inr.injEq]at hs
   subst hs
   exact Bv m L _ (by simp;omega)
theorem zz {m:List (TimetableSlot×Int)}(h:(m.map Prod.fst).Nodup):(m.map toO).Pairwise fun x y=>¬K x y:=by
 rw[List.pairwise_map]
 unfold List.Nodup at h
 rw[List.pairwise_map]at h
 refine h.imp fun {a b} q k=>q ?_
 obtain⟨⟨a1,a2⟩,a3⟩:=a
 obtain⟨⟨b1,b2⟩,b3⟩:=b
 have h1:a2=b2:=k.1
 have h2:a1=b1:=k.2.1
 rw[h1,h2]
theorem zA {x y:Order}(hx:x.outlet=true)(hy:y.outlet=true):Iw x y↔olt x y:=by
 unfold Iw olt oy
 simp[mP,hx,hy]
theorem nI (l:List Order):(srt aq l).Perm l:=List.mergeSort_perm _ _
theorem CD {l:List Order}(ho:∀ x∈l,x.outlet=true)(h:l.Pairwise fun x y=>¬K x y):(srt aq l).Pairwise olt:=by
 have h1:(srt aq l).Pairwise fun x y=>(!(ltOf aq y x))=true:=by
  refine List.pairwise_mergeSort (fun a b c h1 h2=>?_) (fun a b=>?_) l
  ·simp only[Bool.not_eq_true']at h1 h2 ⊢
   exact eG.ntrans _ _ _ h2 h1
  ·cases q:ltOf aq b a with
   |false=>rfl
   |true=>
    cases q2:ltOf aq a b with
    |false=>rfl
    |true=>have:=eG.trans _ _ _ q q2;rw[eG.irrefl]at this;cases this
 have h2:=jg (nI l) h
 have h3:∀ x∈srt aq l,x.outlet=true:=fun x hx=>ho x ((nI l).mem_iff.1 hx)
 rw[List.pairwise_iff_getElem]at h1 h2 ⊢
 intro i j hi hj hij
 have q1:=h1 i j hi hj hij
 have q2:=h2 i j hi hj hij
 have q3:¬olt (srt aq l)[j] (srt aq l)[i]:=fun q=>by
  have:ltOf aq (srt aq l)[j] (srt aq l)[i]=true:=by
   unfold ltOf;rw[decide_eq_true_eq];exact(qe _ _).2 ((zA (h3 _ (List.getElem_mem _)) (h3 _ (List.getElem_mem _))).2 q)
  rw[this]at q1;cases q1
 exact Classical.byContradiction fun q4=>q2 (vo q4 q3)
theorem NU {l m:List Order}(ho:∀ x∈l,x.outlet=true)(h:l.Pairwise fun x y=>¬K x y)(hp:m.Perm l):srt aq m=srt aq l:=by
 have hm:∀ x∈m,x.outlet=true:=fun x hx=>ho x (hp.mem_iff.1 hx)
 exact List.Perm.eq_of_pairwise (fun a b _ _ h1 h2=>absurd h2 (fun h2=>by unfold olt at h1 h2;omega)) (CD hm (jg hp h)) (CD ho h) ((nI m).trans (hp.trans (nI l).symm))
theorem QW {l:List Order}(ho:∀ x∈l,x.outlet=true)(h:l.Pairwise fun x y=>¬K x y):apart aq l:=fun x hx y hy h1 h2=>by
 refine Cz h hx hy (vo (fun q=>?_) fun q=>?_)
 ·unfold ltOf at h1;rw[decide_eq_false_iff_not]at h1;exact h1 ((qe _ _).2 ((zA (ho x hx) (ho y hy)).2 q))
 ·unfold ltOf at h2;rw[decide_eq_false_iff_not]at h2;exact h2 ((qe _ _).2 ((zA (ho y hy) (ho x hx)).2 q))
theorem CE (m:List (TimetableSlot×Int)):∀ x∈m.map toO,x.outlet=true:=fun x hx=>by
 obtain⟨e,_,rfl⟩:=List.mem_map.1 hx
 rfl
theorem ud {p:CertifyPlace}:∀ {c:List Claim},f0 p c≠0→∃ a∈c,p=oV a
 | [],h=>absurd rfl h
 |a::r,h=>by
  by_cases q:p=oV a
  ·exact⟨a,List.mem_cons_self,q⟩
  ·simp only[f0,if_neg q,Int.zero_add]at h
   obtain⟨b,hb,e⟩:=ud h
   exact⟨b,List.mem_cons_of_mem _ hb,e⟩
structure Outs (c:List Claim)(o:List Order):Prop where
 out:∀ x∈o,x.outlet=true
 asc:o.Pairwise olt
 lit:∀ x∈o,x.litres=kz c x.index x.hour∧1≤x.litres
 all:∀ f h,kz c f h≠0→∃ x∈o,x.index=f∧x.hour=h
 src:∀ x∈o,∃ a∈c,a.farm=x.index∧a.hour=x.hour
 len:o.length≤c.length
theorem outs {c:List Claim}(h:okL1 c):Outs c (ar c):=by
 obtain⟨m,e,hm,hn⟩:=HE h
 have e2:ar c=srt aq (m.map toO):=by
  unfold ar
  simp only[e,vr,List.nil_append]
 rw[e2]
 have hmem:∀ x,x∈srt aq (m.map toO)↔∃ q∈m,toO q=x:=fun x=>by rw[(nI _).mem_iff,List.mem_map]
 have lit:∀ x∈srt aq (m.map toO),x.litres=kz c x.index x.hour∧1≤x.litres:=fun x hx=>by
  obtain⟨q,hq,rfl⟩:=(hmem x).1 hx
  have:=hm.entry hq
  exact⟨this.1,hm.pos q hq⟩
 refine⟨fun x hx=>?_,CD (CE m) (zz hm.nd),lit,fun f t hf=>?_,fun x hx=>?_,?_⟩
 ·obtain⟨q,hq,rfl⟩:=(hmem x).1 hx;rfl
 ·exact⟨_,(hmem _).2 ⟨_,hm.mem (p:= { index:=f,hour:=t}) hf,rfl⟩,rfl,rfl⟩
 ·have h1:=lit x hx
  obtain⟨a,ha,ea⟩:=ud (p:=oP x.index x.hour) (c:=c) (by show kz c _ _≠0;omega)
  unfold oP oV at ea
  simp only[CertifyPlace.mk.injEq]at ea
  exact⟨a,ha,ea.2.1.symm,ea.1.symm⟩
 ·rw[(nI _).length_eq,List.length_map];exact hn
theorem ID {c:List Claim}(h:okL1 c):f5 c:=by
 intro _ m hm L hL
 obtain⟨m',e,hm',hn⟩:=HE h
 rw[e]at hm
 simp only[Sum.inr.injEq]at hm
 subst hm
 have hlen:=hL.length_eq
 have h1:=h.1
 refine⟨Bv _ L [] (by simp;omega),fun s hs=>?_⟩
 rw[vr]at hs
 simp only[List.nil_append,Sum.inr.injEq]at hs
 subst hs
 have hp:(L.map toO).Perm (m'.map toO):=hL.map _
 refine⟨QW (CE L) (jg hp (zz hm'.nd)),?_⟩
 rw[NU (CE m') (zz hm'.nd) hp]
 unfold ar
 simp only[e,vr,List.nil_append]
end Go.Sx
end
section
namespace Go.Sx
open Go.Proofs
set_option maxRecDepth 100000
set_option linter.unusedSimpArgs false
theorem zB {p:Prop}(h:p:=by(first|done|(repeat' (first|with_reducible refine And.intro ?_ ?_|((with_reducible show _≠_);first|assumption|omega|(simp_all [aX,bf];done) |grind) |with_reducible intro _)) <;>(first|done|exact Empty.elim ‹Empty› |assumption|rfl|omega|decide|exact fk [0,1,2] |(refine Or.inr ?_;exact fkY [0,1,2]) |(refine Or.inl ?_;exact fkY [0,1,2]) |(refine Or.inl ⟨rfl,?_⟩;exact fkY [0,1,2]) |exact czl|(simp only[*,cond_true,cond_false,Bool.not_true,Bool.not_false,go_sem,Nat.reduceBEq,Nat.reduceLeDiff,Nat.reduceLT,decide_true,Nat.reduceAdd,Nat.reduceSub,Nat.reduceMul,Int.reduceLE,Int.reduceLT,Int.reduceToNat,Int.reduceNeg,reduceCtorEq];(repeat' (first|with_reducible refine And.intro ?_ ?_|((with_reducible show _≠_);first|assumption|omega|(simp_all [aX,bf];done) |grind) |with_reducible intro _)) <;>(first|done|assumption|rfl|omega|decide|exact fk [0,1,2] |(refine Or.inr ?_;exact fkY [0,1,2]) |(refine Or.inl ?_;exact fkY [0,1,2]) |(refine Or.inl ⟨rfl,?_⟩;exact fkY [0,1,2]) |(simp_all [aX,bf];done))) |(exfalso;rename_i h1 h2;rw[h1]at h2;cases h2) |(exfalso;rename_i h1 h2;simp only[h1,Bool.not_false,Bool.not_true,Bool.true_or,Bool.or_true,Bool.false_or,Bool.or_false,reduceCtorEq]at h2;done) |(exfalso;clear hy hG;simp_all;done) |(simp only[*,Sum.inr.injEq,forall_eq',true_implies,forall_const,reduceCtorEq,false_implies,and_true,List.length_append,List.length_cons,List.length_nil,Nat.zero_add,go_sem,Nat.reduceBEq,Nat.reduceLeDiff,Nat.reduceLT,decide_true,Nat.reduceAdd,Nat.reduceSub,Nat.reduceMul,Int.reduceLE,Int.reduceLT,Int.reduceToNat,Int.reduceNeg,reduceCtorEq]at hq2;first|exact hq2.1|exact hq2.2.1|exact hq2|exact hq2.2|(simp only[hq2];done)) |(simp only[*,Sum.inr.injEq,forall_eq',true_implies,forall_const,reduceCtorEq,false_implies,and_true,List.length_append,List.length_cons,List.length_nil,Nat.zero_add,go_sem,Nat.reduceBEq,Nat.reduceLeDiff,Nat.reduceLT,decide_true,Nat.reduceAdd,Nat.reduceSub,Nat.reduceMul,Int.reduceLE,Int.reduceLT,Int.reduceToNat,Int.reduceNeg,reduceCtorEq]at hq1;first|exact hq1.1|exact hq1.2.1|exact hq1|exact hq1.2|(simp only[hq1];done)) |(clear hy hG;simp_all only[aX,bf,Sum.inr.injEq,forall_eq',true_implies,forall_const,reduceCtorEq,false_implies,and_true,List.length_append,List.length_cons,List.length_nil,Nat.zero_add,go_sem,Nat.reduceBEq,Nat.reduceLeDiff,Nat.reduceLT,decide_true,Nat.reduceAdd,Nat.reduceSub,Nat.reduceMul,Int.reduceLE,Int.reduceLT,Int.reduceToNat,Int.reduceNeg,reduceCtorEq];done) |(simp_all [okI,aX,bf];done) |(simp_all [aX,bf];(first|done|exact fk2 [0,1,2])) |exact fk2 [0,1,2]))):p:=h
theorem Ei {p:Prop}(h:p:=by(first|done|(repeat' (first|with_reducible refine And.intro ?_ ?_|((with_reducible show _≠_);first|assumption|omega|(simp_all [aX,bf];done) |grind) |with_reducible intro _)) <;>(first|done|exact Empty.elim ‹Empty› |assumption|rfl|omega|decide|exact fk [0,1,2,3] |(refine Or.inr ?_;exact fkY [0,1,2,3]) |(refine Or.inl ?_;exact fkY [0,1,2,3]) |(refine Or.inl ⟨rfl,?_⟩;exact fkY [0,1,2,3]) |exact czl|(simp only[*,cond_true,cond_false,Bool.not_true,Bool.not_false,go_sem,Nat.reduceBEq,Nat.reduceLeDiff,Nat.reduceLT,decide_true,Nat.reduceAdd,Nat.reduceSub,Nat.reduceMul,Int.reduceLE,Int.reduceLT,Int.reduceToNat,Int.reduceNeg,reduceCtorEq];(repeat' (first|with_reducible refine And.intro ?_ ?_|((with_reducible show _≠_);first|assumption|omega|(simp_all [aX,bf];done) |grind) |with_reducible intro _)) <;>(first|done|assumption|rfl|omega|decide|exact fk [0,1,2,3] |(refine Or.inr ?_;exact fkY [0,1,2,3]) |(refine Or.inl ?_;exact fkY [0,1,2,3]) |(refine Or.inl ⟨rfl,?_⟩;exact fkY [0,1,2,3]) |(simp_all [aX,bf];done))) |(exfalso;rename_i h1 h2;rw[h1]at h2;cases h2) |(exfalso;rename_i h1 h2;simp only[h1,Bool.not_false,Bool.not_true,Bool.true_or,Bool.or_true,Bool.false_or,Bool.or_false,reduceCtorEq]at h2;done) |(exfalso;clear hy hG;simp_all;done) |(simp only[*,Sum.inr.injEq,forall_eq',true_implies,forall_const,reduceCtorEq,false_implies,and_true,List.length_append,List.length_cons,List.length_nil,Nat.zero_add,go_sem,Nat.reduceBEq,Nat.reduceLeDiff,Nat.reduceLT,decide_true,Nat.reduceAdd,Nat.reduceSub,Nat.reduceMul,Int.reduceLE,Int.reduceLT,Int.reduceToNat,Int.reduceNeg,reduceCtorEq]at hq2;first|exact hq2.1|exact hq2.2.1|exact hq2|exact hq2.2|(simp only[hq2];done)) |(simp only[*,Sum.inr.injEq,forall_eq',true_implies,forall_const,reduceCtorEq,false_implies,and_true,List.length_append,List.length_cons,List.length_nil,Nat.zero_add,go_sem,Nat.reduceBEq,Nat.reduceLeDiff,Nat.reduceLT,decide_true,Nat.reduceAdd,Nat.reduceSub,Nat.reduceMul,Int.reduceLE,Int.reduceLT,Int.reduceToNat,Int.reduceNeg,reduceCtorEq]at hq1;first|exact hq1.1|exact hq1.2.1|exact hq1|exact hq1.2|(simp only[hq1];done)) |(clear hy hG;simp_all only[aX,bf,Sum.inr.injEq,forall_eq',true_implies,forall_const,reduceCtorEq,false_implies,and_true,List.length_append,List.length_cons,List.length_nil,Nat.zero_add,go_sem,Nat.reduceBEq,Nat.reduceLeDiff,Nat.reduceLT,decide_true,Nat.reduceAdd,Nat.reduceSub,Nat.reduceMul,Int.reduceLE,Int.reduceLT,Int.reduceToNat,Int.reduceNeg,reduceCtorEq];done) |(simp_all [okI,aX,bf];done) |(simp_all [aX,bf];(first|done|exact fk2 [0,1,2,3])) |exact fk2 [0,1,2,3]))):p:=h
theorem rV {p:Prop}(h:p:=by(first|done|(repeat' (first|with_reducible refine And.intro ?_ ?_|((with_reducible show _≠_);first|assumption|omega|(simp_all [aX,bf];done) |grind) |with_reducible intro _)) <;>(first|done|exact Empty.elim ‹Empty› |assumption|rfl|omega|decide|exact fk [0] |(refine Or.inr ?_;exact fkY [0]) |(refine Or.inl ?_;exact fkY [0]) |(refine Or.inl ⟨rfl,?_⟩;exact fkY [0]) |exact czl|(simp only[*,cond_true,cond_false,Bool.not_true,Bool.not_false,go_sem,Nat.reduceBEq,Nat.reduceLeDiff,Nat.reduceLT,decide_true,Nat.reduceAdd,Nat.reduceSub,Nat.reduceMul,Int.reduceLE,Int.reduceLT,Int.reduceToNat,Int.reduceNeg,reduceCtorEq];(repeat' (first|with_reducible refine And.intro ?_ ?_|((with_reducible show _≠_);first|assumption|omega|(simp_all [aX,bf];done) |grind) |with_reducible intro _)) <;>(first|done|assumption|rfl|omega|decide|exact fk [0] |(refine Or.inr ?_;exact fkY [0]) |(refine Or.inl ?_;exact fkY [0]) |(refine Or.inl ⟨rfl,?_⟩;exact fkY [0]) |(simp_all [aX,bf];done))) |(exfalso;rename_i h1 h2;rw[h1]at h2;cases h2) |(exfalso;rename_i h1 h2;simp only[h1,Bool.not_false,Bool.not_true,Bool.true_or,Bool.or_true,Bool.false_or,Bool.or_false,reduceCtorEq]at h2;done) |(exfalso;clear hy hG;simp_all;done) |(simp only[*,Sum.inr.injEq,forall_eq',true_implies,forall_const,reduceCtorEq,false_implies,and_true,List.length_append,List.length_cons,List.length_nil,Nat.zero_add,go_sem,Nat.reduceBEq,Nat.reduceLeDiff,Nat.reduceLT,decide_true,Nat.reduceAdd,Nat.reduceSub,Nat.reduceMul,Int.reduceLE,Int.reduceLT,Int.reduceToNat,Int.reduceNeg,reduceCtorEq]at hq2;first|exact hq2.1|exact hq2.2.1|exact hq2|exact hq2.2|(simp only[hq2];done)) |(simp only[*,Sum.inr.injEq,forall_eq',true_implies,forall_const,reduceCtorEq,false_implies,and_true,List.length_append,List.length_cons,List.length_nil,Nat.zero_add,go_sem,Nat.reduceBEq,Nat.reduceLeDiff,Nat.reduceLT,decide_true,Nat.reduceAdd,Nat.reduceSub,Nat.reduceMul,Int.reduceLE,Int.reduceLT,Int.reduceToNat,Int.reduceNeg,reduceCtorEq]at hq1;first|exact hq1.1|exact hq1.2.1|exact hq1|exact hq1.2|(simp only[hq1];done)) |(clear hy hG;simp_all only[aX,bf,Sum.inr.injEq,forall_eq',true_implies,forall_const,reduceCtorEq,false_implies,and_true,List.length_append,List.length_cons,List.length_nil,Nat.zero_add,go_sem,Nat.reduceBEq,Nat.reduceLeDiff,Nat.reduceLT,decide_true,Nat.reduceAdd,Nat.reduceSub,Nat.reduceMul,Int.reduceLE,Int.reduceLT,Int.reduceToNat,Int.reduceNeg,reduceCtorEq];done) |(simp_all [okI,aX,bf];done) |(simp_all [aX,bf];(first|done|exact fk2 [0])) |exact fk2 [0]))):p:=h
theorem Ej {p:Prop}(h:p:=by(first|done|(repeat' (first|with_reducible refine And.intro ?_ ?_|((with_reducible show _≠_);first|assumption|omega|(simp_all [aX,bf];done) |grind) |with_reducible intro _)) <;>(first|done|exact Empty.elim ‹Empty› |assumption|rfl|omega|decide|exact fk [0,1] |(refine Or.inr ?_;exact fkY [0,1]) |(refine Or.inl ?_;exact fkY [0,1]) |(refine Or.inl ⟨rfl,?_⟩;exact fkY [0,1]) |exact czl|(simp only[*,cond_true,cond_false,Bool.not_true,Bool.not_false,go_sem,Nat.reduceBEq,Nat.reduceLeDiff,Nat.reduceLT,decide_true,Nat.reduceAdd,Nat.reduceSub,Nat.reduceMul,Int.reduceLE,Int.reduceLT,Int.reduceToNat,Int.reduceNeg,reduceCtorEq];(repeat' (first|with_reducible refine And.intro ?_ ?_|((with_reducible show _≠_);first|assumption|omega|(simp_all [aX,bf];done) |grind) |with_reducible intro _)) <;>(first|done|assumption|rfl|omega|decide|exact fk [0,1] |(refine Or.inr ?_;exact fkY [0,1]) |(refine Or.inl ?_;exact fkY [0,1]) |(refine Or.inl ⟨rfl,?_⟩;exact fkY [0,1]) |(simp_all [aX,bf];done))) |(exfalso;rename_i h1 h2;rw[h1]at h2;cases h2) |(exfalso;rename_i h1 h2;simp only[h1,Bool.not_false,Bool.not_true,Bool.true_or,Bool.or_true,Bool.false_or,Bool.or_false,reduceCtorEq]at h2;done) |(exfalso;clear hy hG;simp_all;done) |(simp only[*,Sum.inr.injEq,forall_eq',true_implies,forall_const,reduceCtorEq,false_implies,and_true,List.length_append,List.length_cons,List.length_nil,Nat.zero_add,go_sem,Nat.reduceBEq,Nat.reduceLeDiff,Nat.reduceLT,decide_true,Nat.reduceAdd,Nat.reduceSub,Nat.reduceMul,Int.reduceLE,Int.reduceLT,Int.reduceToNat,Int.reduceNeg,reduceCtorEq]at hq2;first|exact hq2.1|exact hq2.2.1|exact hq2|exact hq2.2|(simp only[hq2];done)) |(simp only[*,Sum.inr.injEq,forall_eq',true_implies,forall_const,reduceCtorEq,false_implies,and_true,List.length_append,List.length_cons,List.length_nil,Nat.zero_add,go_sem,Nat.reduceBEq,Nat.reduceLeDiff,Nat.reduceLT,decide_true,Nat.reduceAdd,Nat.reduceSub,Nat.reduceMul,Int.reduceLE,Int.reduceLT,Int.reduceToNat,Int.reduceNeg,reduceCtorEq]at hq1;first|exact hq1.1|exact hq1.2.1|exact hq1|exact hq1.2|(simp only[hq1];done)) |(clear hy hG;simp_all only[aX,bf,Sum.inr.injEq,forall_eq',true_implies,forall_const,reduceCtorEq,false_implies,and_true,List.length_append,List.length_cons,List.length_nil,Nat.zero_add,go_sem,Nat.reduceBEq,Nat.reduceLeDiff,Nat.reduceLT,decide_true,Nat.reduceAdd,Nat.reduceSub,Nat.reduceMul,Int.reduceLE,Int.reduceLT,Int.reduceToNat,Int.reduceNeg,reduceCtorEq];done) |(simp_all [okI,aX,bf];done) |(simp_all [aX,bf];(first|done|exact fk2 [0,1])) |exact fk2 [0,1]))):p:=h
theorem Ek {p:Prop}(h:p:=by simp only[go_sem,Nat.reduceBEq,Nat.reduceLeDiff,Nat.reduceLT,decide_true,Nat.reduceAdd,Nat.reduceSub,Nat.reduceMul,Int.reduceLE,Int.reduceLT,Int.reduceToNat,Int.reduceNeg,reduceCtorEq,hc,hw];all_goals exact zB):p:=h
theorem El {p:Prop}(h:p:=by simp only[go_sem,Nat.reduceBEq,Nat.reduceLeDiff,Nat.reduceLT,decide_true,Nat.reduceAdd,Nat.reduceSub,Nat.reduceMul,Int.reduceLE,Int.reduceLT,Int.reduceToNat,Int.reduceNeg,reduceCtorEq,hc];all_goals exact zB):p:=h
theorem KZ {p:Prop}(h:p:=by simp only[go_sem,Nat.reduceBEq,Nat.reduceLeDiff,Nat.reduceLT,decide_true,Nat.reduceAdd,Nat.reduceSub,Nat.reduceMul,Int.reduceLE,Int.reduceLT,Int.reduceToNat,Int.reduceNeg,reduceCtorEq];all_goals exact zB):p:=h
theorem K1 {p:Prop}(h:p:=by simp only[go_sem,Nat.reduceBEq,Nat.reduceLeDiff,Nat.reduceLT,decide_true,Nat.reduceAdd,Nat.reduceSub,Nat.reduceMul,Int.reduceLE,Int.reduceLT,Int.reduceToNat,Int.reduceNeg,reduceCtorEq,hc,hw];all_goals exact Ei):p:=h
theorem K2 {p:Prop}(h:p:=by simp only[go_sem,Nat.reduceBEq,Nat.reduceLeDiff,Nat.reduceLT,decide_true,Nat.reduceAdd,Nat.reduceSub,Nat.reduceMul,Int.reduceLE,Int.reduceLT,Int.reduceToNat,Int.reduceNeg,reduceCtorEq,hc];all_goals exact Ei):p:=h
theorem zC {p:Prop}(h:p:=by simp only[go_sem,Nat.reduceBEq,Nat.reduceLeDiff,Nat.reduceLT,decide_true,Nat.reduceAdd,Nat.reduceSub,Nat.reduceMul,Int.reduceLE,Int.reduceLT,Int.reduceToNat,Int.reduceNeg,reduceCtorEq,hc,hw];all_goals exact Ej):p:=h
theorem zD {p:Prop}(h:p:=by simp only[go_sem,Nat.reduceBEq,Nat.reduceLeDiff,Nat.reduceLT,decide_true,Nat.reduceAdd,Nat.reduceSub,Nat.reduceMul,Int.reduceLE,Int.reduceLT,Int.reduceToNat,Int.reduceNeg,reduceCtorEq,hc];all_goals exact Ej):p:=h
@[go_sem] def ei (x:Fault):List SV:=[.agg (cellsOf .fault x)]
@[go_sem] def ln:List SV→Option Con:=(pD .district fun d=>(pR .order fun out=>(pE (.det True (.fn 98 [] [.ep [.rs .order out] 0,.ep (cellsOf .district d) 0])))))
theorem oN:FnOk Tryz.prog 56 ln:=by
 have hG:ConsOk Tryz.prog (mkG [] []):=aC cg0 cg0
 refine aI [.o] mixed ax hG (fn:=Tryz.f56) (c:=aa Tryz.f56) (by kernel_rfl) (by kernel_rfl) (by kernel_rfl) (by kernel_rfl) (aN fun d=>(cj fun out=>(aB (fun hp=>?_))))
 refine⟨Nat.le_of_ble_eq_true rfl,L0,ak _,?_⟩
 unfold aa Tryz.f56
 simp only[go_sem,vh,vj,Nat.reduceBEq,Nat.reduceLeDiff,Nat.reduceAdd,Nat.reduceSub,Nat.reduceMul]
@[go_sem] def ca (out:List Order)(d:District)(k_0:Nat)(s_0:List (TimetableSlot×Int)):Empty⊕(List (TimetableSlot×Int)):=.inr (c7 .timetableSlot .int s_0 ({ index:=(d.farms.getD (Int.toNat ((out.getD k_0 (default:Order)).index)) (default:Farm)).reach,hour:=(out.getD k_0 (default:Order)).hour}:TimetableSlot) (IntKind.i64.wrap ((aK .timetableSlot .int s_0 ({ index:=(d.farms.getD (Int.toNat ((out.getD k_0 (default:Order)).index)) (default:Farm)).reach,hour:=(out.getD k_0 (default:Order)).hour}:TimetableSlot))+(out.getD k_0 (default:Order)).litres)))
def fD (out:List Order)(d:District)(k_0:Nat)(s_0:List (TimetableSlot×Int)):Prop:=(0≤(out.getD k_0 (default:Order)).index∧(out.getD k_0 (default:Order)).index< (d.farms.length:Int))
@[go_sem] def aA (d:District)(s_1:List Fault×List (TimetableSlot×Int)×List (TimetableSlot×Bool)×Int)(k_2:Nat)(s_2:List (TimetableSlot×Bool)×List Fault×List (TimetableSlot×Int)):Empty⊕(List (TimetableSlot×Bool)×List Fault×List (TimetableSlot×Int)):=(bif(aK .timetableSlot .bool s_2.1 ({ index:=s_1.2.2.2,hour:=(k_2:Int)}:TimetableSlot))then .inr ((c7 .timetableSlot .bool s_2.1 ({ index:=(d.reaches.getD (Int.toNat s_1.2.2.2) (default:Reach)).up,hour:=(IntKind.i64.wrap ((k_2:Int) - (d.reaches.getD (Int.toNat s_1.2.2.2) (default:Reach)).delay))}:TimetableSlot) true),s_2.2.1,s_2.2.2)else(bif((aK .timetableSlot .int s_2.2.2 ({ index:=s_1.2.2.2,hour:=(k_2:Int)}:TimetableSlot)) ==0)then .inr (s_2.1,s_2.2.1,s_2.2.2)else(bif(decide ((aK .timetableSlot .int s_2.2.2 ({ index:=s_1.2.2.2,hour:=(k_2:Int)}:TimetableSlot))≤1073741824))then(bif((!(bw (d.reaches.getD (Int.toNat s_1.2.2.2) (default:Reach)) (aK .timetableSlot .int s_2.2.2 ({ index:=s_1.2.2.2,hour:=(k_2:Int)}:TimetableSlot))).2.1) ||(decide ((k_2:Int) < (d.reaches.getD (Int.toNat s_1.2.2.2) (default:Reach)).delay)))then .inr ((c7 .timetableSlot .bool s_2.1 ({ index:=(d.reaches.getD (Int.toNat s_1.2.2.2) (default:Reach)).up,hour:=(IntKind.i64.wrap ((k_2:Int) - (d.reaches.getD (Int.toNat s_1.2.2.2) (default:Reach)).delay))}:TimetableSlot) ((aK .timetableSlot .bool s_2.1 ({ index:=(d.reaches.getD (Int.toNat s_1.2.2.2) (default:Reach)).up,hour:=(IntKind.i64.wrap ((k_2:Int) - (d.reaches.getD (Int.toNat s_1.2.2.2) (default:Reach)).delay))}:TimetableSlot)) ||(!(bw (d.reaches.getD (Int.toNat s_1.2.2.2) (default:Reach)) (aK .timetableSlot .int s_2.2.2 ({ index:=s_1.2.2.2,hour:=(k_2:Int)}:TimetableSlot))).2.1))),(s_2.2.1++[({ kind:=7,hour:=(k_2:Int),index:=s_1.2.2.2,litres:=(aK .timetableSlot .int s_2.2.2 ({ index:=s_1.2.2.2,hour:=(k_2:Int)}:TimetableSlot)),limit:=0}:Fault)]),s_2.2.2)else .inr (s_2.1,s_2.2.1,(c7 .timetableSlot .int s_2.2.2 ({ index:=(d.reaches.getD (Int.toNat s_1.2.2.2) (default:Reach)).up,hour:=(IntKind.i64.wrap ((k_2:Int) - (d.reaches.getD (Int.toNat s_1.2.2.2) (default:Reach)).delay))}:TimetableSlot) (IntKind.i64.wrap ((aK .timetableSlot .int s_2.2.2 ({ index:=(d.reaches.getD (Int.toNat s_1.2.2.2) (default:Reach)).up,hour:=(IntKind.i64.wrap ((k_2:Int) - (d.reaches.getD (Int.toNat s_1.2.2.2) (default:Reach)).delay))}:TimetableSlot))+(if(bw (d.reaches.getD (Int.toNat s_1.2.2.2) (default:Reach)) (aK .timetableSlot .int s_2.2.2 ({ index:=s_1.2.2.2,hour:=(k_2:Int)}:TimetableSlot))).1< (d.reaches.getD (Int.toNat s_1.2.2.2) (default:Reach)).siphon then(d.reaches.getD (Int.toNat s_1.2.2.2) (default:Reach)).siphon else(bw (d.reaches.getD (Int.toNat s_1.2.2.2) (default:Reach)) (aK .timetableSlot .int s_2.2.2 ({ index:=s_1.2.2.2,hour:=(k_2:Int)}:TimetableSlot))).1))))))else(bif((!(decide ((aK .timetableSlot .int s_2.2.2 ({ index:=s_1.2.2.2,hour:=(k_2:Int)}:TimetableSlot))≤1073741824))) ||(decide ((k_2:Int) < (d.reaches.getD (Int.toNat s_1.2.2.2) (default:Reach)).delay)))then .inr ((c7 .timetableSlot .bool s_2.1 ({ index:=(d.reaches.getD (Int.toNat s_1.2.2.2) (default:Reach)).up,hour:=(IntKind.i64.wrap ((k_2:Int) - (d.reaches.getD (Int.toNat s_1.2.2.2) (default:Reach)).delay))}:TimetableSlot) ((aK .timetableSlot .bool s_2.1 ({ index:=(d.reaches.getD (Int.toNat s_1.2.2.2) (default:Reach)).up,hour:=(IntKind.i64.wrap ((k_2:Int) - (d.reaches.getD (Int.toNat s_1.2.2.2) (default:Reach)).delay))}:TimetableSlot)) ||(!(decide ((aK .timetableSlot .int s_2.2.2 ({ index:=s_1.2.2.2,hour:=(k_2:Int)}:TimetableSlot))≤1073741824))))),(s_2.2.1++[({ kind:=7,hour:=(k_2:Int),index:=s_1.2.2.2,litres:=(aK .timetableSlot .int s_2.2.2 ({ index:=s_1.2.2.2,hour:=(k_2:Int)}:TimetableSlot)),limit:=0}:Fault)]),s_2.2.2)else .inr (s_2.1,s_2.2.1,(c7 .timetableSlot .int s_2.2.2 ({ index:=(d.reaches.getD (Int.toNat s_1.2.2.2) (default:Reach)).up,hour:=(IntKind.i64.wrap ((k_2:Int) - (d.reaches.getD (Int.toNat s_1.2.2.2) (default:Reach)).delay))}:TimetableSlot) (IntKind.i64.wrap ((aK .timetableSlot .int s_2.2.2 ({ index:=(d.reaches.getD (Int.toNat s_1.2.2.2) (default:Reach)).up,hour:=(IntKind.i64.wrap ((k_2:Int) - (d.reaches.getD (Int.toNat s_1.2.2.2) (default:Reach)).delay))}:TimetableSlot))+(if 0< (d.reaches.getD (Int.toNat s_1.2.2.2) (default:Reach)).siphon then(d.reaches.getD (Int.toNat s_1.2.2.2) (default:Reach)).siphon else 0)))))))))
def et (d:District)(items_:List (List SV))(s_1:List Fault×List (TimetableSlot×Int)×List (TimetableSlot×Bool)×Int)(k_2:Nat)(s_2:List (TimetableSlot×Bool)×List Fault×List (TimetableSlot×Int)):Prop:=((aK .timetableSlot .bool s_2.1 ({ index:=s_1.2.2.2,hour:=(k_2:Int)}:TimetableSlot))=false→(((aK .timetableSlot .int s_2.2.2 ({ index:=s_1.2.2.2,hour:=(k_2:Int)}:TimetableSlot)) ==0)=false→(((decide ((aK .timetableSlot .int s_2.2.2 ({ index:=s_1.2.2.2,hour:=(k_2:Int)}:TimetableSlot))≤1073741824))=true→((je (d.reaches.getD (Int.toNat s_1.2.2.2) (default:Reach)) (aK .timetableSlot .int s_2.2.2 ({ index:=s_1.2.2.2,hour:=(k_2:Int)}:TimetableSlot)))∧(((!(bw (d.reaches.getD (Int.toNat s_1.2.2.2) (default:Reach)) (aK .timetableSlot .int s_2.2.2 ({ index:=s_1.2.2.2,hour:=(k_2:Int)}:TimetableSlot))).2.1) ||(decide ((k_2:Int) < (d.reaches.getD (Int.toNat s_1.2.2.2) (default:Reach)).delay)))=true→(items_[s_2.2.1.length]? =some (ei ({ kind:=7,hour:=(k_2:Int),index:=s_1.2.2.2,litres:=(aK .timetableSlot .int s_2.2.2 ({ index:=s_1.2.2.2,hour:=(k_2:Int)}:TimetableSlot)),limit:=0}:Fault))))))∧((decide ((aK .timetableSlot .int s_2.2.2 ({ index:=s_1.2.2.2,hour:=(k_2:Int)}:TimetableSlot))≤1073741824))=false→(((!(decide ((aK .timetableSlot .int s_2.2.2 ({ index:=s_1.2.2.2,hour:=(k_2:Int)}:TimetableSlot))≤1073741824))) ||(decide ((k_2:Int) < (d.reaches.getD (Int.toNat s_1.2.2.2) (default:Reach)).delay)))=true→(items_[s_2.2.1.length]? =some (ei ({ kind:=7,hour:=(k_2:Int),index:=s_1.2.2.2,litres:=(aK .timetableSlot .int s_2.2.2 ({ index:=s_1.2.2.2,hour:=(k_2:Int)}:TimetableSlot)),limit:=0}:Fault))))))))
@[go_sem] def be (d:District)(k_1:Nat)(s_1:List Fault×List (TimetableSlot×Int)×List (TimetableSlot×Bool)×Int):(List Fault)⊕(List Fault×List (TimetableSlot×Int)×List (TimetableSlot×Bool)×Int):=(bif(decide (s_1.2.2.2≥0))then(match ap (aA d s_1) (Int.toNat d.hours) 0 (s_1.2.2.1,s_1.1,s_1.2.1)with| .inl x=>x.elim| .inr s_2=>.inr (s_2.2.1,s_2.2.2,s_2.1,(IntKind.i64.wrap (s_1.2.2.2 - 1))))else .inl s_1.1)
def fE (d:District)(items_:List (List SV))(k_1:Nat)(s_1:List Fault×List (TimetableSlot×Int)×List (TimetableSlot×Bool)×Int):Prop:=((decide (s_1.2.2.2≥0))=true→((0≤s_1.2.2.2∧s_1.2.2.2< (d.reaches.length:Int))∧((d.hours<9223372036854775808)∧okI (aA d s_1) (et d items_ s_1) (Int.toNat d.hours) 0 (s_1.2.2.1,s_1.1,s_1.2.1))))
def aS (out:List Order)(d:District):List Fault:=(match ap (ca out d) out.length 0 ([])with| .inl x=>x.elim| .inr s_0=>(match ap (be d) (d.reaches.length+1) 0 (([]:List Fault),s_0,[],(IntKind.i64.wrap ((d.reaches.length:Int) - 1)))with| .inl x_1_0=>x_1_0| .inr s_1=>default))
def fz (out:List Order)(d:District)(items_:List (List SV)):Prop:=(out.length≤a7→(okI (ca out d) (fD out d) out.length 0 ([])∧(∀ s_0,ap (ca out d) out.length 0 ([])=.inr s_0→(d.reaches.length≤a7→(okI (be d) (fE d items_) (d.reaches.length+1) 0 (([]:List Fault),s_0,[],(IntKind.i64.wrap ((d.reaches.length:Int) - 1)))∧(∀ z_,ap (be d) (d.reaches.length+1) 0 (([]:List Fault),s_0,[],(IntKind.i64.wrap ((d.reaches.length:Int) - 1)))≠ .inr z_)∧(∀ x_1_0,ap (be d) (d.reaches.length+1) 0 (([]:List Fault),s_0,[],(IntKind.i64.wrap ((d.reaches.length:Int) - 1)))=.inl x_1_0→(items_.length=x_1_0.length)))))))
theorem sY (out:List Order)(d:District)(items_:List (List SV))(hp:fz out d items_):Aw Tryz.prog 98 (fun y=>[y,.ep [.rs .order out] 0,.ep (cellsOf .district d) 0]) [] items_:=by
 unfold fz at hp
 refine Gl mixed ax (fn:=Tryz.f98) (c:=aa Tryz.f98) (by kernel_rfl) (by kernel_rfl) (by kernel_rfl) (by kernel_rfl) rfl (n:=0) rfl (G:=fun r_=>xw [(99,lO)] [] (D7 items_ r_)) (fun r_ hy=>?_) (fun args w=>by kernel_rfl)
 have hG:ConsOk Tryz.prog (xw [(99,lO)] [] (D7 items_ r_)):=uT (cgc rI cg0) cg0 hy
 refine⟨hG,Nat.le_of_ble_eq_true rfl,(fun id st=>bif Nat.beq id 0 then some (LCR (ρ:=Empty) (σ:=(List (TimetableSlot×Int))) 3 [] [0,1,2] (fun k_0 s_0=>⟨[(0,.os 0),(2,.ep (cellsOf .district d) 0),(4,.os 1),(5,.os 2),(18,.rs .order out),(19,.v (.int .i64 (out.length:Int))),(20,.v (.int .i64 (k_0:Int)))],[.ab (r_.1 (([]:List Fault).length+1)),.mp .timetableSlot .int s_0 none,.mp .timetableSlot .bool ([]) none]⟩) (ca out d) (fD out d) out.length ([]) (out.length≤a7) ((·.elim)) ((·.elim)) st)else bif Nat.beq id 2 then some (QQ (ρ:=(List Fault)) (σ:=(List Fault×List (TimetableSlot×Int)×List (TimetableSlot×Bool)×Int)) 3 [] [0,1,2] (fun k_1 s_1=>⟨[(0,.os 0),(2,.ep (cellsOf .district d) 0),(4,.os 1),(5,.os 2),(8,.v (.int .i64 s_1.2.2.2))],[.ab (r_.1 (s_1.1.length+1)),.mp .timetableSlot .int s_1.2.1 none,.mp .timetableSlot .bool s_1.2.2.1 none]⟩) (be d) (fE d items_) (d.reaches.length+1) (([]:List Fault),(aX (ap (ca out d) out.length 0 ([]))),[],(IntKind.i64.wrap ((d.reaches.length:Int) - 1))) (fun _=>.normal) (fun x_1_0=>⟨[],[.ab (r_.1 (x_1_0.length+1)),.dead,.dead]⟩) ⟨[],[.ab (r_.1 0),.dead,.dead]⟩ st)else none),?_,?_⟩
 ·unfold aa Tryz.f98
  simp only[ay,true_and,and_true]
  refine⟨?_,?_⟩
  ·refine dB mixed ax hG (by kernel_rfl) (fun _=>rfl) (out.length:Int) rfl g7 (fun hb0 k_0 s_0 hlt0 hq0 hw hc=>⟨L0,ak _,?_⟩) (fun hb0 s_0 hc=>?_)
   ·unfold fD at hq0
    try simp only[hw,Int.toNat_natCast]at hq0
    exact Ek
   ·exact El
  ·refine Iy mixed ax hG (by kernel_rfl) (fun _=>rfl) fun k_1 s_1 hq1=>⟨(fun id st=>bif Nat.beq id 4 then some (LCY (ρ:=Empty) (σ:=(List (TimetableSlot×Bool)×List Fault×List (TimetableSlot×Int))) 4 [] [0,1,2,3] (fun k_2 s_2=>⟨[(0,.os 0),(2,.ep (cellsOf .district d) 0),(4,.os 1),(5,.os 2),(8,.v (.int .i64 s_1.2.2.2)),(9,.ptr 3 0),(56,.v (.int .i64 d.hours)),(57,.v (.int .i64 (k_2:Int)))],[.ab (r_.1 (s_2.2.1.length+1)),.mp .timetableSlot .int s_2.2.2 none,.mp .timetableSlot .bool s_2.1 none,.cells (cellsOf .reach (d.reaches.getD (Int.toNat s_1.2.2.2) (default:Reach)))]⟩) (aA d s_1) (et d items_ s_1) (Int.toNat d.hours) (s_1.2.2.1,s_1.1,s_1.2.1) (d.hours<9223372036854775808) ((·.elim)) ((·.elim)) ⟨[],[.ab (r_.1 0),.dead,.dead,.dead]⟩ st)else none),?_,?_⟩
   ·simp only[ay,true_and,and_true]
    ·refine vg mixed ax hG (by kernel_rfl) (fun _=>rfl) d.hours rfl id (fun hb2 k_2 s_2 hlt2 hq2 hw hc=>⟨L0,ak _,?_⟩) (fun hb2 s_2 hc=>?_)
     ·unfold et at hq2
      try simp only[hw,Int.toNat_natCast]at hq2
      exact K1
     ·exact K2
   ·unfold fE at hq1
    exact KZ
 ·unfold aa Tryz.f98
  simp only[go_sem,Nat.reduceBEq,Nat.reduceLeDiff,Nat.reduceLT,decide_true,Nat.reduceAdd,Nat.reduceSub,Nat.reduceMul,Int.reduceLE,Int.reduceLT,Int.reduceToNat,Int.reduceNeg,reduceCtorEq]
  all_goals exact rV
@[go_sem] def jM:List SV→Option Con:=(pD .district fun d=>(pR .order fun l_=>(pE (.det True (.fn 100 [] [.ep [.rs .order l_] 0,.ep (cellsOf .district d) 0])))))
theorem m_:FnOk Tryz.prog 57 jM:=by
 have hG:ConsOk Tryz.prog (mkG [] []):=aC cg0 cg0
 refine aI [.o] mixed ax hG (fn:=Tryz.f57) (c:=aa Tryz.f57) (by kernel_rfl) (by kernel_rfl) (by kernel_rfl) (by kernel_rfl) (aN fun d=>(cj fun l_=>(aB (fun hp=>?_))))
 refine⟨Nat.le_of_ble_eq_true rfl,L0,ak _,?_⟩
 unfold aa Tryz.f57
 simp only[go_sem,vh,vj,Nat.reduceBEq,Nat.reduceLeDiff,Nat.reduceAdd,Nat.reduceSub,Nat.reduceMul]
@[go_sem] def aR (l_:List Order)(k_0:Nat)(s_0:List (TimetableSlot×Int)×Int):Empty⊕(List (TimetableSlot×Int)×Int):=(bif(!(l_.getD k_0 (default:Order)).outlet)then(bif((l_.getD k_0 (default:Order)).index==0)then .inr ((c7 .timetableSlot .int s_0.1 ({ index:=(l_.getD k_0 (default:Order)).index,hour:=(l_.getD k_0 (default:Order)).hour}:TimetableSlot) ((l_.getD k_0 (default:Order)).litres)),(IntKind.i64.wrap (s_0.2+(l_.getD k_0 (default:Order)).litres)))else .inr ((c7 .timetableSlot .int s_0.1 ({ index:=(l_.getD k_0 (default:Order)).index,hour:=(l_.getD k_0 (default:Order)).hour}:TimetableSlot) ((l_.getD k_0 (default:Order)).litres)),s_0.2))else .inr (s_0.1,s_0.2))
@[go_sem] def eu (d:District)(s_0:List (TimetableSlot×Int)×Int)(k_1:Nat)(k_2:Nat)(k_3:Nat)(s_3:Int):Empty⊕Int:=.inr (IntKind.i64.wrap (s_3+(aK .timetableSlot .int s_0.1 ({ index:=(k_2:Int),hour:=(IntKind.i64.wrap ((k_1:Int) - (k_3:Int)))}:TimetableSlot))))
@[go_sem] def dA (d:District)(s_0:List (TimetableSlot×Int)×Int)(k_1:Nat)(k_2:Nat)(s_2:List Fault):Empty⊕(List Fault):=(match ap (eu d s_0 k_1 k_2) (Int.toNat ((d.reaches.getD k_2 (default:Reach)).delay)) 0 0 with| .inl x=>x.elim| .inr s_3=>(bif(decide ((aK .timetableSlot .int s_0.1 ({ index:=(k_2:Int),hour:=(k_1:Int)}:TimetableSlot)) > (d.reaches.getD k_2 (default:Reach)).cap))then(bif(decide (s_3 > (d.reaches.getD k_2 (default:Reach)).bank))then .inr ((s_2++[({ kind:=1,hour:=(k_1:Int),index:=(k_2:Int),litres:=(aK .timetableSlot .int s_0.1 ({ index:=(k_2:Int),hour:=(k_1:Int)}:TimetableSlot)),limit:=(d.reaches.getD k_2 (default:Reach)).cap}:Fault)])++[({ kind:=3,hour:=(k_1:Int),index:=(k_2:Int),litres:=s_3,limit:=(d.reaches.getD k_2 (default:Reach)).bank}:Fault)])else .inr (s_2++[({ kind:=1,hour:=(k_1:Int),index:=(k_2:Int),litres:=(aK .timetableSlot .int s_0.1 ({ index:=(k_2:Int),hour:=(k_1:Int)}:TimetableSlot)),limit:=(d.reaches.getD k_2 (default:Reach)).cap}:Fault)]))else(bif(decide (s_3 > (d.reaches.getD k_2 (default:Reach)).bank))then .inr (s_2++[({ kind:=3,hour:=(k_1:Int),index:=(k_2:Int),litres:=s_3,limit:=(d.reaches.getD k_2 (default:Reach)).bank}:Fault)])else .inr s_2)))
def eR (d:District)(items_:List (List SV))(s_0:List (TimetableSlot×Int)×Int)(k_1:Nat)(k_2:Nat)(s_2:List Fault):Prop:=(((d.reaches.getD k_2 (default:Reach)).delay<9223372036854775808)∧(∀ s_3,ap (eu d s_0 k_1 k_2) (Int.toNat ((d.reaches.getD k_2 (default:Reach)).delay)) 0 0=.inr s_3→(((decide ((aK .timetableSlot .int s_0.1 ({ index:=(k_2:Int),hour:=(k_1:Int)}:TimetableSlot)) > (d.reaches.getD k_2 (default:Reach)).cap))=true→((items_[s_2.length]? =some (ei ({ kind:=1,hour:=(k_1:Int),index:=(k_2:Int),litres:=(aK .timetableSlot .int s_0.1 ({ index:=(k_2:Int),hour:=(k_1:Int)}:TimetableSlot)),limit:=(d.reaches.getD k_2 (default:Reach)).cap}:Fault)))∧(((decide (s_3 > (d.reaches.getD k_2 (default:Reach)).bank))=true→(items_[(s_2++[({ kind:=1,hour:=(k_1:Int),index:=(k_2:Int),litres:=(aK .timetableSlot .int s_0.1 ({ index:=(k_2:Int),hour:=(k_1:Int)}:TimetableSlot)),limit:=(d.reaches.getD k_2 (default:Reach)).cap}:Fault)]).length]? =some (ei ({ kind:=3,hour:=(k_1:Int),index:=(k_2:Int),litres:=s_3,limit:=(d.reaches.getD k_2 (default:Reach)).bank}:Fault))))∧((decide (s_3 > (d.reaches.getD k_2 (default:Reach)).bank))=false→((decide (s_3 > (d.reaches.getD k_2 (default:Reach)).bank))=false)))))∧((decide ((aK .timetableSlot .int s_0.1 ({ index:=(k_2:Int),hour:=(k_1:Int)}:TimetableSlot)) > (d.reaches.getD k_2 (default:Reach)).cap))=false→(((decide ((aK .timetableSlot .int s_0.1 ({ index:=(k_2:Int),hour:=(k_1:Int)}:TimetableSlot)) > (d.reaches.getD k_2 (default:Reach)).cap))=false)∧(((decide (s_3 > (d.reaches.getD k_2 (default:Reach)).bank))=true→(items_[s_2.length]? =some (ei ({ kind:=3,hour:=(k_1:Int),index:=(k_2:Int),litres:=s_3,limit:=(d.reaches.getD k_2 (default:Reach)).bank}:Fault))))∧((decide (s_3 > (d.reaches.getD k_2 (default:Reach)).bank))=false→((decide (s_3 > (d.reaches.getD k_2 (default:Reach)).bank))=false))))))))
@[go_sem] def cX (d:District)(s_0:List (TimetableSlot×Int)×Int)(k_1:Nat)(s_1:List Fault):Empty⊕(List Fault):=(match ap (dA d s_0 k_1) d.reaches.length 0 s_1 with| .inl x=>x.elim| .inr s_2=>.inr s_2)
def eS (d:District)(items_:List (List SV))(s_0:List (TimetableSlot×Int)×Int)(k_1:Nat)(s_1:List Fault):Prop:=(d.reaches.length≤a7→okI (dA d s_0 k_1) (eR d items_ s_0 k_1) d.reaches.length 0 s_1)
def bK (l_:List Order)(d:District):List Fault:=(match ap (aR l_) l_.length 0 ([],0)with| .inl x=>x.elim| .inr s_0=>(match ap (cX d s_0) (Int.toNat d.hours) 0 ([]:List Fault)with| .inl x=>x.elim| .inr s_1=>(bif(decide (s_0.2 > d.tank.start))then(s_1++[({ kind:=4,hour:=0,index:=0,litres:=s_0.2,limit:=d.tank.start}:Fault)])else s_1)))
def dO (l_:List Order)(d:District)(items_:List (List SV)):Prop:=(l_.length≤a7→(∀ s_0,ap (aR l_) l_.length 0 ([],0)=.inr s_0→((d.hours<9223372036854775808)∧okI (cX d s_0) (eS d items_ s_0) (Int.toNat d.hours) 0 ([]:List Fault)∧(∀ s_1,ap (cX d s_0) (Int.toNat d.hours) 0 ([]:List Fault)=.inr s_1→(((decide (s_0.2 > d.tank.start))=true→((items_[s_1.length]? =some (ei ({ kind:=4,hour:=0,index:=0,litres:=s_0.2,limit:=d.tank.start}:Fault)))∧(items_.length=(s_1++[({ kind:=4,hour:=0,index:=0,litres:=s_0.2,limit:=d.tank.start}:Fault)]).length)))∧((decide (s_0.2 > d.tank.start))=false→(items_.length=s_1.length)))))))
theorem kZ (l_:List Order)(d:District)(items_:List (List SV))(hp:dO l_ d items_):Aw Tryz.prog 100 (fun y=>[y,.ep [.rs .order l_] 0,.ep (cellsOf .district d) 0]) [] items_:=by
 unfold dO at hp
 refine Gl mixed ax (fn:=Tryz.f100) (c:=aa Tryz.f100) (by kernel_rfl) (by kernel_rfl) (by kernel_rfl) (by kernel_rfl) rfl (n:=0) rfl (G:=fun r_=>xw [] [] (D7 items_ r_)) (fun r_ hy=>?_) (fun args w=>by kernel_rfl)
 have hG:ConsOk Tryz.prog (xw [] [] (D7 items_ r_)):=uT cg0 cg0 hy
 refine⟨hG,Nat.le_of_ble_eq_true rfl,(fun id st=>bif Nat.beq id 0 then some (LCR (ρ:=Empty) (σ:=(List (TimetableSlot×Int)×Int)) 2 [] [0,1] (fun k_0 s_0=>⟨[(0,.os 0),(2,.ep (cellsOf .district d) 0),(4,.os 1),(5,.v (.int .i64 s_0.2)),(15,.rs .order l_),(16,.v (.int .i64 (l_.length:Int))),(17,.v (.int .i64 (k_0:Int)))],[.ab (r_.1 (([]:List Fault).length+1)),.mp .timetableSlot .int s_0.1 none]⟩) (aR l_) pT l_.length ([],0) (l_.length≤a7) ((·.elim)) ((·.elim)) st)else bif Nat.beq id 2 then some (LCY (ρ:=Empty) (σ:=(List Fault)) 2 [] [0,1] (fun k_1 s_1=>⟨[(0,.os 0),(2,.ep (cellsOf .district d) 0),(4,.os 1),(5,.v (.int .i64 (aX (ap (aR l_) l_.length 0 ([],0))).2)),(41,.v (.int .i64 d.hours)),(42,.v (.int .i64 (k_1:Int)))],[.ab (r_.1 (s_1.length+1)),.mp .timetableSlot .int (aX (ap (aR l_) l_.length 0 ([],0))).1 none]⟩) (cX d (aX (ap (aR l_) l_.length 0 ([],0)))) (eS d items_ (aX (ap (aR l_) l_.length 0 ([],0)))) (Int.toNat d.hours) ([]:List Fault) (d.hours<9223372036854775808) ((·.elim)) ((·.elim)) ⟨[],[.ab (r_.1 0),.dead]⟩ st)else none),?_,?_⟩
 ·unfold aa Tryz.f100
  simp only[ay,true_and,and_true]
  refine⟨?_,?_⟩
  ·refine dB mixed ax hG (by kernel_rfl) (fun _=>rfl) (l_.length:Int) rfl g7 (fun hb0 k_0 s_0 hlt0 _ hw hc=>⟨L0,ak _,?_⟩) (fun hb0 s_0 hc=>?_)
   ·exact zC
   ·exact zD
  ·refine vg mixed ax hG (by kernel_rfl) (fun _=>rfl) d.hours rfl id (fun hb1 k_1 s_1 hlt1 hq1 hw hc=>⟨(fun id st=>bif Nat.beq id 4 then some (LCY (ρ:=Empty) (σ:=(List Fault)) 2 [] [0,1] (fun k_2 s_2=>⟨[(0,.os 0),(2,.ep (cellsOf .district d) 0),(4,.os 1),(5,.v (.int .i64 (aX (ap (aR l_) l_.length 0 ([],0))).2)),(8,.v (.int .i64 (k_1:Int))),(41,.v (.int .i64 d.hours)),(42,.v (.int .i64 (k_1:Int))),(46,.rs .reach d.reaches),(47,.v (.int .i64 (d.reaches.length:Int))),(48,.v (.int .i64 (k_2:Int)))],[.ab (r_.1 (s_2.length+1)),.mp .timetableSlot .int (aX (ap (aR l_) l_.length 0 ([],0))).1 none]⟩) (dA d (aX (ap (aR l_) l_.length 0 ([],0))) k_1) (eR d items_ (aX (ap (aR l_) l_.length 0 ([],0))) k_1) d.reaches.length s_1 (d.reaches.length≤a7) ((·.elim)) ((·.elim)) ⟨[],[.ab (r_.1 0),.dead]⟩ st)else none),?_,?_⟩) (fun hb1 s_1 hc=>?_)
   ·simp only[ay,true_and,and_true]
    ·refine vg mixed ax hG (by kernel_rfl) (fun _=>rfl) (d.reaches.length:Int) rfl g7 (fun hb2 k_2 s_2 hlt2 hq2 hw hc=>⟨(fun id st=>bif Nat.beq id 6 then some (LCR (ρ:=Empty) (σ:=Int) 3 [] [0,1,2] (fun k_3 s_3=>⟨[(0,.os 0),(2,.ep (cellsOf .district d) 0),(4,.os 1),(5,.v (.int .i64 (aX (ap (aR l_) l_.length 0 ([],0))).2)),(8,.v (.int .i64 (k_1:Int))),(9,.v (.int .i64 (k_2:Int))),(10,.ptr 2 0),(11,.v (.int .i64 s_3)),(41,.v (.int .i64 d.hours)),(42,.v (.int .i64 (k_1:Int))),(46,.rs .reach d.reaches),(47,.v (.int .i64 (d.reaches.length:Int))),(48,.v (.int .i64 (k_2:Int))),(54,.v (.int .i64 ((d.reaches.getD k_2 (default:Reach)).delay))),(55,.v (.int .i64 (k_3:Int)))],[.ab (r_.1 (s_2.length+1)),.mp .timetableSlot .int (aX (ap (aR l_) l_.length 0 ([],0))).1 none,.cells (cellsOf .reach (d.reaches.getD k_2 (default:Reach)))]⟩) (eu d (aX (ap (aR l_) l_.length 0 ([],0))) k_1 k_2) pT (Int.toNat ((d.reaches.getD k_2 (default:Reach)).delay)) 0 ((d.reaches.getD k_2 (default:Reach)).delay<9223372036854775808) ((·.elim)) ((·.elim)) st)else none),?_,?_⟩) (fun hb2 s_2 hc=>?_)
     ·simp only[ay,true_and,and_true]
      ·refine dB mixed ax hG (by kernel_rfl) (fun _=>rfl) ((d.reaches.getD k_2 (default:Reach)).delay) rfl id (fun hb3 k_3 s_3 hlt3 _ hw hc=>⟨L0,ak _,?_⟩) (fun hb3 s_3 hc=>?_)
       ·exact Ek
       ·exact El
     ·unfold eR at hq2
      try simp only[hw,Int.toNat_natCast]at hq2
      exact zC
     ·exact zD
   ·unfold eS at hq1
    try simp only[hw,Int.toNat_natCast]at hq1
    exact zC
   ·exact zD
 ·unfold aa Tryz.f100
  simp only[go_sem,Nat.reduceBEq,Nat.reduceLeDiff,Nat.reduceLT,decide_true,Nat.reduceAdd,Nat.reduceSub,Nat.reduceMul,Int.reduceLE,Int.reduceLT,Int.reduceToNat,Int.reduceNeg,reduceCtorEq]
  all_goals exact rV
end Go.Sx
end
