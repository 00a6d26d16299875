/- Part of the proof that the law TimetableServedSpec returns true and leaves its arguments as they were, for all arguments of bulk at most 1048576 (the Upto form). -/
import Derived.Test.YtagjakphhkfofaaGreatC711
import Derived.Test.YtagjakphhkfofaaGreatC710
import Derived.Test.YtagjakphhkfofaaGreatC707
set_option linter.all false
set_option maxHeartbeats 4000000
section
namespace Go.Sx
open Go.Proofs Go.Shelf Go.Sort Go.Lib
set_option maxRecDepth 100000
theorem xm {ρ σ:Type}{step:Nat→σ→ρ⊕σ}(J:Nat→σ→Prop):∀ (n i:Nat) (s:σ),J i s→(∀ j s,i≤j→j<i+n→J j s→∃ s',step j s=.inr s'∧J (j+1) s')→∃ s',ap step n i s=.inr s'∧J (i+n) s'
 |0,i,s,h,_=>⟨s,rfl,h⟩
 |n+1,i,s,h,hs=>by
  obtain⟨s',e,h'⟩:=hs i s (Nat.le_refl _) (by omega) h
  obtain⟨t,e2,h2⟩:=xm J n (i+1) s' h' fun j s a b c=>hs j s (by omega) (by omega) c
  exact⟨t,by unfold ap;rw[e];exact e2,by rw[show i+(n+1)=i+1+n by omega];exact h2⟩
theorem Ae {n i:Nat}:(List.replicate n (0:Int)).getD i 0=0:=by
 rw[List.getD_eq_getElem?_getD,List.getElem?_replicate]
 split <;>rfl
section
variable {d:District}{out:List Order}
theorem N2 (hg:Good d out)(hall:∀ x∈out,x.outlet=true)(r:Nat):
  ((cG d out r).length=d.hours.toNat∧∀ b:Nat,b<d.hours.toNat→(cG d out r).getD b 0=drw d out r b)∧jy d out r:=by
 have hr:=hg.right
 have hH:=hr.hours;have hH1:=hr.hours1
 have hl:=hg.len
 have key:∀ j (s:List Int),j<out.length→(s.length=d.hours.toNat∧∀ b:Nat,b<d.hours.toNat→s.getD b 0=drw d (out.take j) r b)→∃ s',ew d out r j s=.inr s'∧(s'.length=d.hours.toNat∧∀ b:Nat,b<d.hours.toNat→s'.getD b 0=drw d (out.take (j+1)) r b):=by
  intro j s hj ⟨h1,h2⟩
  have hm:out[j]∈out:=List.getElem_mem hj
  have hx:=hg.one _ hm
  have ho:=hall _ hm
  have hx0:=hx.hour0;have hx1:=hx.hour;have hxl:=hx.litres;have hxl1:=hx.litres1
  unfold ew
  rw[cm out default hj,ho,Bool.true_and]
  have tk:∀ b:Nat,drw d (out.take (j+1)) r b=drw d (out.take j) r b+(bif jf d r b out[j]then out[j].litres else 0):=fun b=>lj hj
  cases hq:((d.farms.getD out[j].index.toNat default).reach==(r:Int))with
  |false=>
   refine⟨s,rfl,h1,fun b hb=>?_⟩
   rw[h2 b hb,tk]
   unfold jf
   rw[ho,hq];simp
  |true=>
   refine⟨_,rfl,by rw[List.length_set];exact h1,fun b hb=>?_⟩
   rw[iK _ _ _ _ _ (by omega),tk]
   have hb0:=nH (d:=d) (l:=out.take j) (fun x hx=>by have:=hg.one x (List.mem_of_mem_take hx);exact⟨this.litres1,this.litres⟩) r b
   have hln:(out.take j).length≤4096:=by rw[List.length_take];omega
   by_cases e:b=out[j].hour.toNat
   ·subst e
    rw[if_pos rfl,h2 _ hb]
    have hP:jf d r ((out[j].hour.toNat:Nat):Int) out[j]=true:=by
     unfold jf;rw[ho,hq];simp only[Bool.and_true,Bool.true_or,beq_iff_eq];omega
    rw[hP,cond_true,bv (by omega) (by omega)]
   ·rw[if_neg e,h2 b hb]
    have hP:jf d r (b:Int) out[j]=false:=by
     unfold jf
     rw[show(out[j].hour==(b:Int))=false by rw[beq_eq_false_iff_ne];omega]
     rfl
    rw[hP];simp
 obtain⟨s',e,h1,h2⟩:=xm (step:=ew d out r) (fun j s=>s.length=d.hours.toNat∧∀ b:Nat,b<d.hours.toNat→s.getD b 0=drw d (out.take j) r b) out.length 0 (List.replicate d.hours.toNat 0)
  ⟨List.length_replicate,fun b _=>by rw[Ae];rfl⟩ fun j s _ hj hJ=>key j s (by omega) hJ
 refine⟨?_,⟨rfl,by omega,by unfold dE;omega⟩,fun _=>?_⟩
 ·unfold cG
  rw[e]
  refine⟨h1,fun b hb=>?_⟩
  have:=h2 b hb
  rwa[Nat.zero_add,List.take_length]at this
 ·refine fZ (fun _ (s:List Int) =>s.length=d.hours.toNat) _ _ _ List.length_replicate fun j s _ hj hs=>⟨fun _=>?_,fun s' he=>?_⟩
  ·rw[cm out default (by omega)]
   have hx:=hg.one out[j] (List.getElem_mem (by omega))
   have:=hx.hour0;have:=hx.hour;have:=hx.index0
   exact⟨fun q=>⟨by omega,hx.farm q⟩,fun _=>⟨⟨by omega,by omega⟩,⟨by omega,by omega⟩⟩⟩
  ·unfold ew at he
   cases hc:((out.getD j default).outlet&&((d.farms.getD (Int.toNat (out.getD j default).index) default).reach==(r:Int)))with
   |true=>rw[hc]at he;cases he;rw[List.length_set];exact hs
   |false=>rw[hc]at he;cases he;exact hs
structure GR (d:District)(gs:List Order)(g:List (List Int))(r:Nat):Prop where
 len:g.length=d.reaches.length
 row:∀ a,r≤a→a<d.reaches.length→(g.getD a []).length=d.hours.toNat
 cel:∀ a b:Nat,r≤a→a<d.reaches.length→b<d.hours.toNat→cell g a b=qh gs a b
def EN (d:District)(gs:List Order)(r b:Int)(c:Nat):Int:=cp (fun x=>jf d r b x&&decide (x.index< (c:Int))) gs
theorem BG {gs:List Order}(hgs:∀ x∈gs,x.outlet=false∧0≤x.index)(r b:Int)(c:Nat):
  EN d gs r b (c+1)=EN d gs r b c+(if(rch d c).up=r then qh gs c b else 0):=by
 have h1:EN d gs r b c+cp (fun x=>jf d r b x&&(x.index==(c:Int))) gs=EN d gs r b (c+1):=DX fun x hx=>by
  have:=(hgs x hx).2
  cases jf d r b x with
  |false=>simp
  |true=>
   simp only[Bool.true_and]
   constructor
   ·rw[Bool.eq_iff_iff];simp only[decide_eq_true_eq,Bool.or_eq_true,beq_iff_eq];omega
   ·rw[Bool.and_eq_false_iff];simp only[decide_eq_false_iff_not,beq_eq_false_iff_ne];omega
 rw[←h1]
 congr 1
 by_cases hu:(rch d c).up=r
 ·rw[if_pos hu]
  refine t_ fun x hx=>?_
  obtain⟨ho,_⟩:=hgs x hx
  unfold jf gP
  rw[ho]
  rw[Bool.eq_iff_iff]
  simp only[Bool.false_and,Bool.false_or,Bool.not_false,Bool.true_and,Bool.and_eq_true,beq_iff_eq]
  constructor
  ·rintro⟨⟨a1,a2⟩,a3⟩;exact⟨a3,a1⟩
  ·rintro⟨a1,a2⟩;refine⟨⟨a2,?_⟩,a1⟩;rw[a1];exact hu
 ·rw[if_neg hu]
  refine iJ fun x hx=>?_
  obtain⟨ho,_⟩:=hgs x hx
  unfold jf
  rw[ho]
  simp only[Bool.false_and,Bool.false_or,Bool.not_false,Bool.true_and,Bool.and_eq_false_iff,beq_eq_false_iff_ne]
  by_cases e:x.index=(c:Int)
  ·left;right;rw[e];exact hu
  ·right;exact e
structure DM (d:District)(out gs:List Order)(r c:Nat)(dm:List Int):Prop where
 len:dm.length=d.hours.toNat
 val:∀ b:Nat,b<d.hours.toNat→dm.getD b 0=drw d out r b+EN d gs r b c
section
variable {gs:List Order}{s0:List (List Int)×Int}{r:Nat}
theorem HJ {s1:List Int×Int}{c:Nat}(hc:s1.2=(c:Int))(hs:s0.2=(r:Int))(hu:(d.reaches.getD c default).up=(r:Int))(hH:d.hours≤4096)(hH1:1≤d.hours):
  ∀ (n i k:Nat) (dm:List Int),dm.length=d.hours.toNat→k≤d.hours.toNat→d.hours.toNat - k<n→
   (∀ b:Nat,k≤b→b<d.hours.toNat→ -4611686018427387904≤dm.getD b 0+cell (s0.1.set r (List.replicate d.hours.toNat 0)) c b∧dm.getD b 0+cell (s0.1.set r (List.replicate d.hours.toNat 0)) c b≤4611686018427387904)→
   ∃ dm',ap (cw d s0 s1) n i (dm,(k:Int))=.inl dm'∧dm'.length=d.hours.toNat∧∀ b:Nat,b<d.hours.toNat→dm'.getD b 0=dm.getD b 0+(if k≤b then cell (s0.1.set r (List.replicate d.hours.toNat 0)) c b else 0)
 |0,_,_,_,_,_,h,_=>absurd h (Nat.not_lt_zero _)
 |n+1,i,k,dm,hl,hk,hn,hb=>by
  have hst:cw d s0 s1 i (dm,(k:Int))=if k<d.hours.toNat then .inr (dm.set k (dm.getD k 0+cell (s0.1.set r (List.replicate d.hours.toNat 0)) c k),((k+1:Nat):Int))else .inl dm:=by
   unfold cw
   simp only[hc,hs,Int.toNat_natCast]
   rw[show(((d.reaches.getD c default).up==(r:Int)))=true by rw[hu];exact beq_self_eq_true _,Bool.and_true]
   by_cases hk':k<d.hours.toNat
   ·rw[decide_eq_true (by omega),cond_true,if_pos hk']
    have hbk:=hb k (Nat.le_refl _) hk'
    rw[show((s0.1.set r (List.replicate d.hours.toNat 0)).getD c []).getD k 0=cell (s0.1.set r (List.replicate d.hours.toNat 0)) c k from rfl]
    rw[bv (by omega) (by omega),bv (by omega) (by omega),show(k:Int)+1=((k+1:Nat):Int) by omega]
   ·rw[decide_eq_false (by omega),cond_false,if_neg hk']
  unfold ap
  rw[hst]
  rcases Nat.lt_or_eq_of_le hk with hk'|rfl
  ·rw[if_pos hk']
   have hdv:∀ b:Nat,(dm.set k (dm.getD k 0+cell (s0.1.set r (List.replicate d.hours.toNat 0)) c k)).getD b 0=if b=k then dm.getD k 0+cell (s0.1.set r (List.replicate d.hours.toNat 0)) c k else dm.getD b 0:=fun b=>iK _ _ _ _ _ (by omega)
   obtain⟨dm',e,h1,h2⟩:=HJ hc hs hu hH hH1 n (i+1) (k+1) (dm.set k (dm.getD k 0+cell (s0.1.set r (List.replicate d.hours.toNat 0)) c k)) (by rw[List.length_set];exact hl) hk' (by omega) fun b h1 h2=>by
    rw[hdv,if_neg (by omega)];exact hb b (by omega) h2
   refine⟨dm',e,h1,fun b hb'=>?_⟩
   rw[h2 b hb',hdv]
   by_cases e1:b=k
   ·subst e1;rw[if_pos rfl,if_neg (by omega),if_pos (Nat.le_refl _),Int.add_zero]
   ·rw[if_neg e1]
    by_cases e2:k≤b
    ·rw[if_pos e2,if_pos (by omega)]
    ·rw[if_neg e2,if_neg (by omega)]
  ·rw[if_neg (by omega)]
   exact⟨dm,rfl,hl,fun b hb'=>by rw[if_neg (by omega),Int.add_zero]⟩
theorem Q0 {s1:List Int×Int}{c:Nat}(hc:s1.2=(c:Int))(hcl:c<d.reaches.length)(hg:(s0.1.set (Int.toNat s0.2) (List.replicate d.hours.toNat 0)).length=d.reaches.length)(hrow:((s0.1.set (Int.toNat s0.2) (List.replicate d.hours.toNat 0)).getD c []).length=d.hours.toNat)(hH:d.hours≤4096)(n i:Nat)(dm:List Int)(hl:dm.length=d.hours.toNat):
  okI (cw d s0 s1) (gH d s0 s1) n i (dm,0):=by
 refine fZ (fun _ (s:List Int×Int) =>s.1.length=d.hours.toNat∧0≤s.2) n i (dm,0) ⟨hl,Int.le_refl _⟩ fun j s _ _ hJ=>⟨⟨fun _=>?_,fun q=>?_⟩,fun s' e=>?_⟩
 ·rw[hc];omega
 ·rw[Bool.and_eq_true,decide_eq_true_eq]at q
  have:=hJ.1;have:=hJ.2
  rw[hc,Int.toNat_natCast,hg,hrow]
  omega
 ·unfold cw at e
  cases hq:((decide (s.2<d.hours))&&((d.reaches.getD (Int.toNat s1.2) (default:Reach)).up==s0.2))with
  |true=>
   rw[hq]at e;cases e
   rw[Bool.and_eq_true,decide_eq_true_eq]at hq
   have:=hJ.2
   refine⟨by rw[List.length_set];exact hJ.1,?_⟩
   show 0≤IntKind.i64.wrap (s.2+1)
   rw[bv (by omega) (by omega)];omega
  |false=>rw[hq]at e;cases e
theorem U_ {m:Mp}(hr:Right1 d)(ho:Orders1 d out)(p:PI d out gs m r 0)(hrl:r<d.reaches.length)(hs:s0.2=(r:Int))(hG:GR d gs s0.1 (r+1)):
  ∀ (n k c:Nat) (dm:List Int),r+1≤c→c≤d.reaches.length→d.reaches.length - c<n→DM d out gs r c dm→
   (∃ dm',ap (bL d s0) n k (dm,(c:Int))=.inl dm'∧DM d out gs r d.reaches.length dm')∧okI (bL d s0) (gI d s0) n k (dm,(c:Int))
 |0,_,_,_,_,_,h,_=>absurd h (Nat.not_lt_zero _)
 |n+1,k,c,dm,hc1,hc2,hn,hD=>by
  have hH:=hr.hours;have hH1:=hr.hours1;have hR:=hr.reaches
  rcases Nat.lt_or_eq_of_le hc2 with hc|rfl
  ·have hcel:∀ b:Nat,b<d.hours.toNat→cell (s0.1.set r (List.replicate d.hours.toNat 0)) c b=qh gs c b:=fun b hb=>by
    unfold cell
    rw[iK _ _ _ _ _ (by rw[hG.len];exact hrl),if_neg (by omega)]
    exact hG.cel c b (by omega) hc hb
   have hrow:((s0.1.set r (List.replicate d.hours.toNat 0)).getD c []).length=d.hours.toNat:=by
    rw[iK _ _ _ _ _ (by rw[hG.len];exact hrl),if_neg (by omega)]
    exact hG.row c (by omega) hc
   have hlen:=p.len2 hr ho (Nat.zero_le _)
   rw[List.length_append]at hlen
   have hlg:∀ x∈gs,1≤x.litres∧x.litres≤1073741824:=fun x hx=>p.lit hr ho x (List.mem_append_right _ hx)
   have hlo:∀ x∈out,1≤x.litres∧x.litres≤1073741824:=fun x hx=>p.lit hr ho x (List.mem_append_left _ hx)
   have hgs:∀ x∈gs,x.outlet=false∧0≤x.index:=fun x hx=>⟨(p.gate x hx).1.out,(p.gate x hx).1.i0⟩
   have hstep:∃ dm',bL d s0 k (dm,(c:Int))=.inr (dm',((c+1:Nat):Int))∧DM d out gs r (c+1) dm':=by
    unfold bL
    simp only
    rw[decide_eq_true (by omega:(c:Int) < (d.reaches.length:Int)),cond_true,bv (by omega) (by omega),show(c:Int)+1=((c+1:Nat):Int) by omega]
    by_cases hu:(d.reaches.getD c default).up=(r:Int)
    ·obtain⟨dm',e,h1,h2⟩:=HJ (s0:=s0) (s1:=(dm,(c:Int))) (c:=c) rfl hs hu hH hH1 (d.hours.toNat+1) 0 0 dm hD.len (Nat.zero_le _) (by omega) fun b _ hb=>by
      rw[hD.val b hb,hcel b hb]
      have q1:=nH (d:=d) hlo r b
      have q2:=oc (p:=fun x=>jf d r b x&&decide (x.index< (c:Int))) hlg
      have q3:=oc (p:=gP c b) hlg
      unfold EN qh
      have:(out.length:Int)≤270336:=by omega
      have:(gs.length:Int)≤270336:=by omega
      omega
     rw[show((0:Nat):Int)=0 from rfl]at e
     rw[e]
     refine⟨dm',rfl,h1,fun b hb=>?_⟩
     rw[h2 b hb,hD.val b hb,if_pos (Nat.zero_le _),hcel b hb,BG hgs,if_pos (show(rch d (c:Int)).up=(r:Int)from hu),Int.add_assoc]
    ·have e:ap (cw d s0 (dm,(c:Int))) (d.hours.toNat+1) 0 (dm,0)=.inl dm:=by
      unfold ap cw
      simp only[Int.toNat_natCast,hs]
      rw[show(((d.reaches.getD c default).up==(r:Int)))=false by rw[beq_eq_false_iff_ne];exact hu,Bool.and_false,cond_false]
     rw[e]
     refine⟨dm,rfl,hD.len,fun b hb=>?_⟩
     rw[hD.val b hb,BG hgs,if_neg (show ¬ (rch d (c:Int)).up=(r:Int)from hu),Int.add_zero]
   obtain⟨dm',e,hD'⟩:=hstep
   obtain⟨⟨dm2,e2,hD2⟩,hok⟩:=U_ hr ho p hrl hs hG n (k+1) (c+1) dm' (by omega) hc (by omega) hD'
   refine⟨⟨dm2,by unfold ap;rw[e];exact e2,hD2⟩,fun _ _=>⟨?_,fun z hz=>?_⟩,fun s' hs'=>?_⟩
   ·exact Q0 rfl hc (by rw[List.length_set,hG.len]) (by rw[hs,Int.toNat_natCast];exact hrow) hH _ _ _ hD.len
   ·unfold bL at e
    simp only at e
    rw[decide_eq_true (by omega:(c:Int) < (d.reaches.length:Int)),cond_true,hz]at e
    simp only[Sum.inr.injEq]at e
    have e3:=congrArg Prod.snd e
    have e4:(default:List Int×Int).2=((c+1:Nat):Int):=e3
    have e5:(default:List Int×Int).2=0:=rfl
    omega
   ·rw[e]at hs';cases hs';exact hok
  ·refine⟨⟨dm,?_,hD⟩,fun _ q=>?_,fun s' hs'=>?_⟩
   ·unfold ap bL
    simp only
    rw[decide_eq_false (by omega),cond_false]
   ·simp only[decide_eq_true_eq]at q;omega
   ·unfold bL at hs'
    simp only at hs'
    rw[decide_eq_false (by omega),cond_false]at hs';cases hs'
end
end
end Go.Sx
end
section
namespace Go.Sx
open Go.Proofs Go.Shelf Go.Sort Go.Lib
set_option maxRecDepth 100000
theorem Gw {i:Int}{x:Reach}(h:aU i x=true)(w:Int):kH x w:=fun _ _=>EL h w
theorem EO (x:Reach):b7 x 0=(0,true):=rfl
section
variable {d:District}{out gs:List Order}{m:Mp}{r:Nat}{s0:List (List Int)×Int}{dm:List Int}
theorem Va (hs:s0.2=(r:Int))(h:Nat)(g:List (List Int)):cg d s0 dm h g=(bif((!(b7 (rch d r) (dm.getD h 0)).2) ||((decide ((b7 (rch d r) (dm.getD h 0)).1 > 0))&&(decide ((IntKind.i64.wrap ((h:Int) - (rch d r).delay)) <0))))then .inl ()else(bif(decide ((b7 (rch d r) (dm.getD h 0)).1 > 0))then .inr (g.set r ((g.getD r []).set (Int.toNat (IntKind.i64.wrap ((h:Int) - (rch d r).delay))) (b7 (rch d r) (dm.getD h 0)).1))else .inr g)):=by
 unfold cg
 rw[hs]
 rfl
theorem Lu (l:List Order)(x:Order)(a b:Int):qh (l++[x]) a b=qh l a b+(bif gP a b x then x.litres else 0):=by
 unfold qh
 rw[u_]
 simp[cp]
theorem GR.zero {g:List (List Int)}(p:PI d out gs m r 0)(hr:Right1 d)(hG:GR d gs g (r+1))(hrl:r<d.reaches.length):GR d gs (g.set r (List.replicate d.hours.toNat 0)) r:=by
 refine⟨by rw[List.length_set];exact hG.len,fun a h1 h2=>?_,fun a b h1 h2 h3=>?_⟩
 ·rw[iK _ _ _ _ _ (by rw[hG.len];exact hrl)]
  by_cases e:a=r
  ·rw[if_pos e,List.length_replicate]
  ·rw[if_neg e];exact hG.row a (by omega) h2
 ·unfold cell
  rw[iK _ _ _ _ _ (by rw[hG.len];exact hrl)]
  by_cases e:a=r
  ·rw[if_pos e,Ae]
   refine(iJ fun x hx=>?_).symm
   obtain⟨q1,q2⟩:=p.gate x hx
   have h0:=q1.h0;have hi:=q1.i0;have hi1:=q1.i1
   have:1≤(rch d x.index).delay:=(hr.reachI hi hi1).delay1
   unfold gP
   rw[show(x.index==(a:Int))=false by rw[beq_eq_false_iff_ne];rcases q2 with q| ⟨q,q3⟩ <;>omega]
   simp
  ·rw[if_neg e]
   exact hG.cel a b (by omega) h2 h3
theorem GR.add {g:List (List Int)}{h:Nat}{v:Int}(p:PI d out gs m r h)(hG:GR d gs g r)(hrl:r<d.reaches.length)(hd:(rch d r).delay≤h)(hd1:1≤(rch d r).delay)(hh:h<d.hours.toNat):
  GR d (gs++[{ hour:=(h:Int) - (rch d r).delay,index:=r,litres:=v,outlet:=false}]) (g.set r ((g.getD r []).set ((h:Int) - (rch d r).delay).toNat v)) r:=by
 have hrow:=hG.row r (Nat.le_refl _) hrl
 refine⟨by rw[List.length_set];exact hG.len,fun a h1 h2=>?_,fun a b h1 h2 h3=>?_⟩
 ·rw[iK _ _ _ _ _ (by rw[hG.len];exact hrl)]
  by_cases e:a=r
  ·rw[if_pos e,List.length_set];exact hrow
  ·rw[if_neg e];exact hG.row a h1 h2
 ·have hc:=hG.cel a b h1 h2 h3
  rw[Lu]
  unfold cell at hc ⊢
  rw[iK _ _ _ _ _ (by rw[hG.len];exact hrl)]
  by_cases e:a=r
  ·subst e
   rw[if_pos rfl,iK _ _ _ _ _ (by rw[hrow];omega)]
   by_cases e2:b=((h:Int) - (rch d a).delay).toNat
   ·rw[if_pos e2]
    have hz:qh gs a b=0:=iJ fun x hx=>by
     obtain⟨q1,q2⟩:=p.gate x hx
     unfold gP
     by_cases e3:x.index=(a:Int)
     ·have q2':(a:Int)=a∧x.hour+(rch d a).delay< (h:Int):=by
       rcases q2 with q|q
       ·omega
       ·rw[e3]at q;exact q
      rw[show(x.hour==(b:Int))=false by rw[beq_eq_false_iff_ne];omega]
      simp
     ·rw[show(x.index==(a:Int))=false by rw[beq_eq_false_iff_ne];exact e3]
      simp
    rw[hz]
    unfold gP
    simp only[Bool.not_false,Bool.true_and,beq_self_eq_true]
    rw[show((h:Int) - (rch d a).delay==(b:Int))=true by rw[beq_iff_eq];omega]
    simp
   ·rw[if_neg e2,hc]
    unfold gP
    rw[show((h:Int) - (rch d a).delay==(b:Int))=false by rw[beq_eq_false_iff_ne];omega]
    simp
  ·rw[if_neg e,hc]
   unfold gP
   rw[show((r:Int) ==(a:Int))=false by rw[beq_eq_false_iff_ne];omega]
   simp
theorem Q2 (hr:Right1 d)(ho:Orders1 d out)(hrl:r<d.reaches.length)(hs:s0.2=(r:Int))(hdl:dm.length=d.hours.toNat):
  ∀ (n h:Nat) (gs:List Order) (m:Mp) (g:List (List Int)),h+n=d.hours.toNat→PI d out gs m r h→GR d gs g r→(∀ b:Nat,b<d.hours.toNat→dm.getD b 0=drw d (out++gs) r b)→
   ((∃ gs' m' g',cI (aF d) (vn r d.hours.toNat h) (out++gs,m)=.inr (out++gs',m')∧ap (cg d s0 dm) n h g=.inr g'∧PI d out gs' m' r d.hours.toNat∧GR d gs' g' r)∨
    ((∃ y,cI (aF d) (vn r d.hours.toNat h) (out++gs,m)=.inl y)∧ap (cg d s0 dm) n h g=.inl ()))∧
   okI (cg d s0 dm) (dJ d s0 dm) n h g
 |0,h,gs,m,g,hn,p,hG,hD=>by
  have:h=d.hours.toNat:=by omega
  subst this
  exact⟨.inl ⟨gs,m,g,by rw[pw];rfl,rfl,p,hG⟩,trivial⟩
 |n+1,h,gs,m,g,hn,p,hG,hD=>by
  have hH:=hr.hours;have hH1:=hr.hours1
  have hhl:h<d.hours.toNat:=by omega
  have hdy:=lm hr hrl
  have hw:=hD h hhl
  have hlit:=p.lit hr ho
  have hb:=(nH (d:=d) hlit r h).1
  have hpre:aU (r:Int) (rch d r)=true:=hr.reach r hrl
  have hin:b7 (rch d r) (dm.getD h 0)=am (rch d r) (drw d (out++gs) r h):=by rw[hw];exact EM hpre hb
  have heq:=Va (d:=d) (dm:=dm) hs h g
  rw[bv (by omega) (by omega),hin]at heq
  have hP:∀ (s:List (List Int)),s.length=d.reaches.length→(s.getD r []).length=d.hours.toNat→(((!(am (rch d r) (drw d (out++gs) r h)).2) ||((decide ((am (rch d r) (drw d (out++gs) r h)).1 > 0))&&(decide ((h:Int) - (rch d r).delay<0))))=false→(decide ((am (rch d r) (drw d (out++gs) r h)).1 > 0))=true→(0:Int)≤(h:Int) - (rch d r).delay)→dJ d s0 dm h s:=by
   intro s h1 h2 h3
   unfold dJ
   rw[hs,Int.toNat_natCast,hdl,h1,h2,show d.reaches.getD r default=rch d r from rfl,bv (by omega) (by omega),hin]
   exact⟨by omega,by omega,Gw hpre _,by omega,fun q1 q2=>⟨by omega,h3 q1 q2,by omega⟩⟩
  have hPok:dJ d s0 dm h g:=hP g hG.len (hG.row r (Nat.le_refl _) hrl) fun q1 q2=>by
   rw[Bool.or_eq_false_iff,q2,Bool.true_and,decide_eq_false_iff_not]at q1
   omega
  rw[ll hhl]
  simp only[cI,ap]
  rcases wy hr ho hrl hhl (s:=(out++gs,m)) rfl p with⟨e0,e1⟩ | ⟨e0,e1,e2⟩ | ⟨v,e0,e1,e2,e3,e4,e5⟩
  ·rw[e1]
   have hz:cg d s0 dm h g=.inr g:=by
    rw[heq,e0,←EM hpre (Int.le_refl 0),EO];rfl
   rw[hz]
   simp only
   obtain⟨a1,a2⟩:=Q2 hr ho hrl hs hdl n (h+1) gs m g (by omega) (p.skip e0) hG hD
   exact⟨a1,hPok,fun s' e=>by rw[hz]at e;cases e;exact a2⟩
  ·rw[e2]
   have hz:cg d s0 dm h g=.inl ():=by
    rw[heq]
    rcases e1 with e1|e1
    ·rw[e1];rfl
    ·rcases sO (i:=(r:Int)) (by omega) hpre e0 with⟨v,e5,e6,_⟩ | ⟨e5,_⟩
     ·rw[e5,decide_eq_true (p:=v > 0) (by omega),decide_eq_true (by omega)];rfl
     ·rw[show(am (rch d r) (drw d (out++gs) r h)).2=false from e5];rfl
   rw[hz]
   simp only
   exact⟨.inr ⟨⟨_,rfl⟩,trivial⟩,hPok,fun s' e=>by rw[hz]at e;cases e⟩
  ·rw[e5]
   have hz:cg d s0 dm h g=.inr (g.set r ((g.getD r []).set ((h:Int) - (rch d r).delay).toNat v)):=by
    rw[heq,e1,decide_eq_true (p:=v > 0) (by omega),decide_eq_false (by omega)];rfl
   rw[hz]
   simp only
   have p':=p.add hr ho hrl hhl e0 e1 e2 e3 e4
   have hG':=hG.add (v:=v) p hrl e2 hdy.1 hhl
   obtain⟨a1,a2⟩:=Q2 hr ho hrl hs hdl n (h+1) _ _ _ (by omega) p' hG' fun b hb'=>by
    rw[hD b hb',←List.append_assoc,x5 d (out++gs),Cw]
    have hu:=O2 hr hrl
    unfold jf
    simp only[Int.toNat_natCast,Bool.false_and,Bool.false_or,Bool.not_false,Bool.true_and]
    rw[show((d.reaches.getD r default).up==(r:Int))=false by rw[beq_eq_false_iff_ne];have:(rch d r).up<r:=hu;have e:(d.reaches.getD r default).up=(rch d r).up:=rfl;omega]
    simp
   exact⟨a1,hPok,fun s' e=>by rw[hz]at e;cases e;exact a2⟩
theorem O5 (hr:Right1 d)(hg:Good d out)(hall:∀ x∈out,x.outlet=true):∀ (r n k:Nat) (gs:List Order) (m:Mp) (g:List (List Int)),r<d.reaches.length→r+2≤n→PI d out gs m r 0→GR d gs g (r+1)→
   ((∃ gs' m' g',cI (aF d) (qg d.hours.toNat (r+1)) (out++gs,m)=.inr (out++gs',m')∧ap (bQ d out) n k (g,(r:Int))=.inl (.inr g')∧PI d out gs' m' 0 d.hours.toNat∧GR d gs' g' 0)∨
    ((∃ y,cI (aF d) (qg d.hours.toNat (r+1)) (out++gs,m)=.inl y)∧ap (bQ d out) n k (g,(r:Int))=.inl (.inl ())))∧
   okI (bQ d out) (dK d out) n k (g,(r:Int))
 |r,0,_,_,_,_,_,h,_,_=>absurd h (by omega)
 |r,n+1,k,gs,m,g,hrl,hn,p,hG=>by
  have ho:=hg.orders
  have hH:=hr.hours;have hH1:=hr.hours1;have hR:=hr.reaches
  obtain⟨⟨d1,d2⟩,d3⟩:=N2 hg hall r
  have hgs:∀ x∈gs,(r:Int) <x.index:=fun x hx=>by
   obtain⟨q1,q2⟩:=p.gate x hx
   have:1≤(rch d x.index).delay:=(hr.reachI q1.i0 q1.i1).delay1
   have:=q1.h0
   rcases q2 with q| ⟨q,q3⟩ <;>omega
  have hDM:DM d out gs r (r+1) (cG d out r):=⟨d1,fun b hb=>by
   rw[d2 b hb]
   unfold EN
   rw[iJ fun x hx=>?_,Int.add_zero]
   have:=hgs x hx
   rw[decide_eq_false (by omega),Bool.and_false]⟩
  have hsr:((g,(r:Int)):List (List Int)×Int).2=(r:Int):=rfl
  obtain⟨⟨dm,k1,kD⟩,k2⟩:=U_ (s0:=(g,(r:Int))) hr ho p hrl hsr hG (d.reaches.length+1) 0 (r+1) _ (Nat.le_refl _) (by omega) (by omega) hDM
  have hval:∀ b:Nat,b<d.hours.toNat→dm.getD b 0=drw d (out++gs) r b:=fun b hb=>by
   rw[kD.val b hb,x5]
   unfold EN
   rw[show cp (fun x=>jf d r b x&&decide (x.index< (d.reaches.length:Int))) gs=drw d gs r b from t_ fun x hx=>by
    rw[decide_eq_true (p.gate x hx).1.i1,Bool.and_true]]
  obtain⟨a1,a2⟩:=Q2 (s0:=(g,(r:Int))) hr ho hrl hsr kD.len d.hours.toNat 0 gs m _ (by omega) p (GR.zero p hr hG hrl) hval
  have hw1:IntKind.i64.wrap ((r:Int)+1)=((r+1:Nat):Int):=by rw[bv (by omega) (by omega)];omega
  have hw2:IntKind.i64.wrap ((r:Int) - 1)=(r:Int) - 1:=bv (by omega) (by omega)
  have hpre:dK d out k (g,(r:Int)):=by
   unfold dK
   simp only[hw1]
   refine fun _=>⟨⟨trivial,by omega,by unfold dE;omega⟩,fun _=>⟨⟨by omega,by rw[hG.len];omega⟩,d3,k2,fun z e=>?_,fun x e=>⟨by omega,?_⟩⟩⟩
   ·rw[k1]at e;cases e
   ·rw[k1]at e;cases e;exact a2
  have hst:bQ d out k (g,(r:Int))=(match ap (cg d (g,(r:Int)) dm) d.hours.toNat 0 (g.set r (List.replicate d.hours.toNat 0))with| .inl _=>.inl (.inl ()) | .inr s_3=>.inr (s_3,(r:Int) - 1)):=by
   unfold bQ
   simp only[hw1,hw2]
   rw[decide_eq_true (by omega),cond_true,k1]
   rfl
  rw[px,rY]
  rcases a1 with⟨gs',m',g',b1,b2,b3,b4⟩ | ⟨⟨y,b1⟩,b2⟩
  ·rw[b1]
   have hst':bQ d out k (g,(r:Int))=.inr (g',(r:Int) - 1):=by rw[hst,b2]
   simp only[ap,hst']
   cases r with
   |zero=>
    have hend:∀ j,bQ d out j (g',(((0:Nat):Int)) - 1)=.inl (.inr g'):=fun j=>by
     unfold bQ
     simp only
     rw[decide_eq_false (by omega),cond_false]
    refine⟨.inl ⟨gs',m',g',rfl,?_,b3,b4⟩,hpre,fun s' e=>?_⟩
    ·cases n with
     |zero=>omega
     |succ n=>simp only[ap,hend]
    ·rw[hst']at e;cases e
     cases n with
     |zero=>trivial
     |succ n=>
      refine⟨?_,fun s' e=>by rw[hend]at e;cases e⟩
      unfold dK
      intro q
      simp only[decide_eq_true_eq]at q
      omega
   |succ r=>
    have e1:(((r+1:Nat):Int)) - 1=(r:Int):=by omega
    rw[e1]
    obtain⟨c1,c2⟩:=O5 hr hg hall r n (k+1) gs' m' g' (by omega) (by omega) (b3.row hrl hH1) b4
    refine⟨c1,hpre,fun s' e=>?_⟩
    rw[hst',e1]at e;cases e;exact c2
  ·rw[b1]
   have hst':bQ d out k (g,(r:Int))=.inl (.inl ()):=by rw[hst,b2]
   simp only[ap,hst']
   exact⟨.inr ⟨⟨y,rfl⟩,trivial⟩,hpre,fun s' e=>by rw[hst']at e;cases e⟩
theorem Q3 (hr:Right1 d)(p:PI d out gs m 0 d.hours.toNat):PFin d out gs:=by
 obtain⟨gs',e,h⟩:=KK (out:=out) (s:=(out++gs,m)) hr ⟨gs,0,d.hours.toNat,hr.one,Nat.le_refl _,rfl,by rw[pw];rfl,p⟩
 rw[List.append_cancel_left e]
 exact h
theorem N3 (hN:Nar d out)(hall:∀ x∈out,x.outlet=true):
  ((an d out=([],false,0)∧aV d out=([],false))∨
   ∃ gs g,PFin d out gs∧aV d out=(g,true)∧GR d gs g 0∧an d out=(bif decide (((out++gs).length:Int) > 4096)then([],false,2)else(srt aG (out++gs),true,0)))∧jz d out:=by
 have hg:=hN.good
 have hr:=hg.right
 have ho:=hg.orders
 have hR:=hr.reaches
 have h1:=hr.one
 obtain⟨f1,_,f3⟩:=sR hr ho
 obtain⟨m,hm⟩:=f3 hall
 have hPJ:=zv hr (f1 m hm).2
 have hp0:PI d out [] m (d.reaches.length - 1) 0:=by
  refine⟨fun a b=>(by rw[List.append_nil];exact(f1 m hm).2 a b),fun x hx=>(by cases hx),fun a b a0 a1 b0 b1 q=>?_,List.Pairwise.nil,Nat.zero_le _⟩
  rcases q with q| ⟨q,q2⟩
  ·omega
  ·omega
 have hG0:GR d [] (List.replicate d.reaches.length ([]:List Int)) (d.reaches.length - 1+1):=⟨List.length_replicate,fun a a1 a2=>by omega,fun a b a1 a2=>by omega⟩
 obtain⟨c1,c2⟩:=O5 hr hg hall (d.reaches.length - 1) (d.reaches.length+1) 0 [] m _ (by omega) (by omega) hp0 hG0
 have e1:IntKind.i64.wrap ((d.reaches.length:Int) - 1)=((d.reaches.length - 1:Nat):Int):=by rw[bv (by omega) (by omega)];omega
 have e2:qg d.hours.toNat (d.reaches.length - 1+1)=br d:=by unfold br;rw[show d.reaches.length - 1+1=d.reaches.length by omega]
 rw[e2,List.append_nil]at c1
 have hPl:an d out=(match cI (aF d) (br d) (out,m)with| .inl _=>([],false,0) | .inr s=>(bif decide (((s.1).length:Int) > 4096)then([],false,2)else(srt aG s.1,true,0))):=by
  unfold an
  rw[(og d out).2 hN]
  simp only[bne_self_eq_false,cond_false]
  rw[hm]
  rfl
 have hI:aV d out=(match ap (bQ d out) (d.reaches.length+1) 0 ((List.replicate d.reaches.length []),((d.reaches.length - 1:Nat):Int))with| .inl (.inl x_0_0) =>([],false) | .inl (.inr x_0_1) =>(x_0_1,true) | .inr s_0=>default):=by
  unfold aV
  rw[e1]
  rfl
 refine⟨?_,fun _=>⟨⟨rfl,by omega,by unfold dE;omega⟩,fun _ _=>?_⟩⟩
 ·rcases c1 with⟨gs,m',g,b1,b2,b3,b4⟩ | ⟨⟨y,b1⟩,b2⟩
  ·refine .inr ⟨gs,g,Q3 hr b3,by rw[hI,b2],b4,by rw[hPl,b1]⟩
  ·exact .inl ⟨by rw[hPl,b1],by rw[hI,b2]⟩
 ·rw[e1]
  refine⟨c2,fun z e=>?_⟩
  rcases c1 with⟨gs,m',g,b1,b2,b3,b4⟩ | ⟨⟨y,b1⟩,b2⟩
  ·rw[b2]at e;cases e
  ·rw[b2]at e;cases e
end
end Go.Sx
end
section
namespace Go.Sx
open Go.Proofs Go.Shelf Go.Sort Go.Lib
set_option maxRecDepth 100000
theorem CQ (l:List Order)(x:Order)(hl:l.length≤100000):ap (fP l x) (l.length+1) 0 0=.inl (((l.takeWhile fun y=>cN y x).length:Nat):Int):=by
 have:=sU (step:=fP l x) (q:=fun y=>cN y x) (fun j s=>rfl) hl (l.length+1) 0 0 (Nat.zero_le _) (by omega)
 simpa using this
theorem Q4 (l:List Order)(x:Order)(hl:l.length≤100000):nJ l x=ins (fun y=>cN y x) x l:=by
 unfold nJ
 rw[CQ l x hl,x9]
 simp
theorem Vb (l:List Order)(x:Order)(hl:l.length≤100000):oQ l x:=by
 have ht:=Lt (fun y=>cN y x) l
 refine⟨Ad (step:=fP l x) (p:=kI l x) (q:=fun y=>cN y x) (fun j s=>rfl) hl (fun j s=>rfl) _,fun z e=>?_,fun z e=>?_⟩
 ·rw[CQ l x hl]at e;cases e
 ·rw[CQ l x hl]at e;cases e
  generalize (l.takeWhile fun y=>cN y x).length=k at ht
  simp only[Int.toNat_natCast,List.nil_append,List.drop_zero,List.take_length]
  refine⟨⟨by omega,by omega,by omega⟩,by unfold dE;simp;omega,fun _=>⟨by unfold dE;simp;omega,fun _=>⟨⟨by omega,by omega,by omega⟩,by unfold dE;simp;omega⟩⟩⟩
theorem Q5 (x:Order):K x x:=⟨rfl,rfl,rfl⟩
theorem CR {l:List Order}(h:l.Pairwise fun x y=>¬K x y):l.Nodup:=List.Pairwise.imp (fun {x y} q (e:x=y) =>q (e▸Q5 x)) h
theorem Q6 {a b c:Order}(h1:olt a b)(h2:olt b c):olt a c:=by unfold olt at *;omega
theorem Lv {l:List Order}{x:Order}(hk:∀ y∈l,¬K x y)(h:l.Pairwise olt):(ins (fun y=>cN y x) x l).Pairwise olt:=by
 refine vM (R:=olt) (fun a b c h1 h2=>Q6 h1 h2) (fun y hy=>⟨fun q=>(ug y x).1 q,fun q=>?_⟩) h
 have n1:¬olt y x:=fun e=>by rw[(ug y x).2 e]at q;cases q
 by_cases n2:olt x y
 ·exact n2
 ·exact absurd (vo n2 n1) (hk y hy)
section
variable {d:District}{out gs:List Order}{g:List (List Int)}
structure PT (d:District)(out gs:List Order)(r h:Nat)(l:List Order):Prop where
 asc:l.Pairwise olt
 mem:∀ x,x∈l↔x∈out∨(x∈gs∧(x.index< (r:Int)∨x.index=(r:Int)∧x.hour< (h:Int)))
 len:l.length≤out.length+r*d.hours.toNat+h
theorem PT.step (ho:Good d out)(hall:∀ x∈out,x.outlet=true)(hF:PFin d out gs){r h:Nat}{l:List Order}(p:PT d out gs r h l)(hl:l.length≤100000):
  PT d out gs r (h+1) (bif decide (qh gs r h > 0)then nJ l { hour:=(h:Int),index:=(r:Int),litres:=qh gs r h,outlet:=false}else l):=by
 have hK:=vp ho hall hF
 have hKg:gs.Pairwise fun x y=>¬K x y:=(List.pairwise_append.1 hK).2.1
 have hr:=ho.right
 have hgl:∀ x∈gs,x.outlet=false:=fun x hx=>(hF.gate x hx).out
 have hone:=HB ho hF
 by_cases hv:qh gs r h > 0
 ·rw[decide_eq_true hv,cond_true,Q4 l _ hl]
  obtain⟨x,hx,x1,x2,x3,x4⟩:=NT hKg (show qh gs r h≠0 by omega)
  have ex:({ hour:=(h:Int),index:=(r:Int),litres:=qh gs r h,outlet:=false}:Order)=x:=by
   cases x;simp only at x1 x2 x3 x4 ⊢;subst x1 x2 x3 x4;rfl
  rw[ex]
  refine⟨Lv (fun y hy k=>?_) p.asc,fun y=>?_,?_⟩
  ·rcases(p.mem y).1 hy with q| ⟨q,q2⟩
   ·have:=k.2.2;rw[x1,hall y q]at this;cases this
   ·have a1:=k.1;have a2:=k.2.1;omega
  ·rw[(pJ _ x l).mem_iff,List.mem_cons,p.mem y]
   constructor
   ·rintro (rfl|q| ⟨q,q2⟩)
    ·exact .inr ⟨hx,.inr ⟨x2,by omega⟩⟩
    ·exact .inl q
    ·exact .inr ⟨q,by omega⟩
   ·rintro (q| ⟨q,q2⟩)
    ·exact .inr (.inl q)
    ·by_cases e:y.index=(r:Int)∧y.hour=(h:Int)
     ·exact .inl (Cz hKg q hx ⟨by omega,by omega,by rw[x1,hgl y q]⟩)
     ·exact .inr (.inr ⟨q,by omega⟩)
  ·rw[HI];have:=p.len;omega
 ·rw[decide_eq_false hv,cond_false]
  refine⟨p.asc,fun y=>?_,by have:=p.len;omega⟩
  rw[p.mem y]
  constructor
  ·rintro (q| ⟨q,q2⟩)
   ·exact .inl q
   ·exact .inr ⟨q,by omega⟩
  ·rintro (q| ⟨q,q2⟩)
   ·exact .inl q
   ·refine .inr ⟨q,?_⟩
    by_cases e:y.index=(r:Int)∧y.hour=(h:Int)
    ·have:=KR hKg q (hgl y q)
     rw[e.1,e.2]at this
     have:=(hone y (List.mem_append_right _ q)).litres1
     omega
    ·omega
theorem PT.next (hr:Right1 d)(hF:PFin d out gs){r:Nat}{l:List Order}(p:PT d out gs r d.hours.toNat l):PT d out gs (r+1) 0 l:=by
 refine⟨p.asc,fun y=>?_,?_⟩
 ·rw[p.mem y]
  constructor
  ·rintro (q| ⟨q,q2⟩)
   ·exact .inl q
   ·exact .inr ⟨q,by omega⟩
  ·rintro (q| ⟨q,q2⟩)
   ·exact .inl q
   ·have h1:=(hF.gate y q).h1
    have h0:=(hF.gate y q).h0
    have h2:1≤(rch d y.index).delay:=(hr.reachI (hF.gate y q).i0 (hF.gate y q).i1).delay1
    have:=hr.hours1
    exact .inr ⟨q,by omega⟩
 ·have:=p.len
  rw[Nat.add_mul];omega
theorem Lw (hN:Nar d out)(hall:∀ x∈out,x.outlet=true)(hF:PFin d out gs)(hI:aV d out=(g,true))(hG:GR d gs g 0):
  (∃ l,ap (fg d out) g.length 0 ([]++out)=.inr l∧l=srt aG (out++gs))∧okI (fg d out) (jA d out) g.length 0 ([]++out):=by
 have hg:=hN.good
 have hr:=hg.right
 have hH:=hr.hours;have hH1:=hr.hours1;have hR:=hr.reaches
 have hw:=hN.wide
 have hol:=hg.len
 have hm:∀ r:Nat,r≤d.reaches.length→r*d.hours.toNat≤1024:=fun r h=>by
  have h1:r*d.hours.toNat≤d.reaches.length*d.hours.toNat:=Nat.mul_le_mul_right _ h
  have h2:((d.reaches.length*d.hours.toNat:Nat):Int)=(d.reaches.length:Int)*d.hours:=by rw[Int.natCast_mul];congr 1;omega
  omega
 have hI1:(aV d out).1=g:=by rw[hI]
 have hcell:∀ r h:Nat,r<d.reaches.length→h<d.hours.toNat→((((aV d out).1).getD r (default:List Int)).getD h (0:Int))=qh gs r h:=fun r h h1 h2=>by
  rw[hI1];exact hG.cel r h (Nat.zero_le _) h1 h2
 have hrowl:∀ r:Nat,r<d.reaches.length→(((aV d out).1).getD r (default:List Int)).length=d.hours.toNat:=fun r h1=>by
  rw[hI1];exact hG.row r (Nat.zero_le _) h1
 have st2:∀ r h l,r<d.reaches.length→h<d.hours.toNat→PT d out gs r h l→l.length≤100000∧∃ l',fT d out r h l=.inr l'∧PT d out gs r (h+1) l':=fun r h l h1 h2 p=>by
  have hl:l.length≤100000:=by have:=p.len;have:=hm r (by omega);omega
  refine⟨hl,_,?_,p.step hg hall hF hl⟩
  unfold fT
  rw[hcell r h h1 h2]
  cases decide (qh gs r h > 0) <;>rfl
 have st1:∀ r l,r<d.reaches.length→PT d out gs r 0 l→(∃ l',fg d out r l=.inr l'∧PT d out gs (r+1) 0 l')∧okI (fT d out r) (gU d out r) d.hours.toNat 0 l:=fun r l h1 p=>by
  obtain⟨l',e,q⟩:=xm (step:=fT d out r) (fun h l=>PT d out gs r h l) d.hours.toNat 0 l p fun h l _ hh q=>(st2 r h l h1 (by omega) q).2
  refine⟨⟨l',by unfold fg;rw[e],PT.next hr hF (by rw[Nat.zero_add]at q;exact q)⟩,?_⟩
  refine fZ (fun h l=>PT d out gs r h l) d.hours.toNat 0 l p fun h l _ hh q=>⟨?_,fun s' e=>?_⟩
  ·obtain⟨q1,_⟩:=st2 r h l h1 (by omega) q
   unfold gU
   rw[hrowl r h1]
   exact⟨by omega,fun _=>⟨by omega,Vb _ _ q1⟩⟩
  ·obtain⟨_,l',e',q'⟩:=st2 r h l h1 (by omega) q
   rw[e']at e;cases e;exact q'
 have p0:PT d out gs 0 0 ([]++out):=by
  refine⟨hg.asc,fun x=>?_,by simp⟩
  rw[List.nil_append]
  constructor
  ·exact .inl
  ·rintro (q| ⟨q,q2⟩)
   ·exact q
   ·have:=(hF.gate x q).i0;have:=(hF.gate x q).h0;omega
 rw[hG.len]
 obtain⟨l',e,q⟩:=xm (step:=fg d out) (fun r l=>PT d out gs r 0 l) d.reaches.length 0 _ p0 fun r l _ hh q=>(st1 r l (by omega) q).1
 refine⟨⟨l',e,?_⟩,?_⟩
 ·have hK:=vp hg hall hF
  refine(QU (l:=out++gs) ?_ q.asc).symm
  refine(List.perm_ext_iff_of_nodup (CR (q.asc.imp fun {_ _} a=>zx a)) (CR hK)).2 fun x=>?_
  rw[q.mem x,List.mem_append]
  constructor
  ·rintro (a| ⟨a,_⟩)
   ·exact .inl a
   ·exact .inr a
  ·rintro (a|a)
   ·exact .inl a
   ·exact .inr ⟨a,.inl (by have:=(hF.gate x a).i1;omega)⟩
 ·refine fZ (fun r l=>PT d out gs r 0 l) d.reaches.length 0 _ p0 fun r l _ hh q=>⟨?_,fun s' e=>?_⟩
  ·exact fun _=>⟨by omega,(st1 r l (by omega) q).2⟩
  ·obtain⟨⟨l',e',q'⟩,_⟩:=st1 r l (by omega) q
   rw[e']at e;cases e;exact q'
theorem Q7 (hr:Right1 d):lz d=decide ((d.reaches.length:Int)*d.hours > 1024):=by
 have hm:=sS hr
 unfold lz
 rw[bv (by omega) (by omega)]
theorem BH (out:List Order):ap (fS out) out.length 0 ()=.inr ()↔∀ x∈out,x.outlet=true:=by
 rw[er]
 unfold fS
 constructor
 ·intro h x hx
  obtain⟨k,hk,rfl⟩:=List.getElem_of_mem hx
  have:=h k hk
  rw[cm out default hk]at this
  cases ho:out[k].outlet with
  |true=>rfl
  |false=>rw[ho]at this;cases this
 ·intro h k hk
  rw[cm out default hk,h _ (List.getElem_mem hk)];rfl
theorem Q8 (d:District)(out:List Order):cy d out=an d out∧nz d out:=by
 have hcs:=Gv d out
 by_cases hc:bA d out=0
 ·have hgd:=HA hc
  have hr:=hgd.right
  have hw:=Q7 hr
  by_cases hwd:(d.reaches.length:Int)*d.hours > 1024
  ·rw[decide_eq_true hwd]at hw
   have hn:bq d out=2:=by
    have hm:=sS hr
    unfold bq
    rw[hc,bv (by omega) (by omega),decide_eq_true hwd];rfl
   refine⟨?_,pH d out,fun _ q=>by rw[hw]at q;cases q⟩
   unfold cy an
   rw[←hcs,hc,hw,hn];rfl
  ·rw[decide_eq_false hwd]at hw
   have hN:Nar d out:=⟨hgd,by omega⟩
   have hn:=(og d out).2 hN
   by_cases hall:∀ x∈out,x.outlet=true
   ·have hga:=(BH out).2 hall
    obtain⟨hI,hIp⟩:=N3 hN hall
    rcases hI with⟨e1,e2⟩ | ⟨gs,g,hF,e1,hG,e2⟩
    ·refine⟨?_,pH d out,fun _ _ _ _=>⟨hIp,fun q=>by rw[e2]at q;cases q⟩⟩
     rw[e1]
     unfold cy
     rw[←hcs,hc,hw,hga,e2];rfl
    ·obtain⟨⟨l,t1,t2⟩,t3⟩:=Lw hN hall hF e1 hG
     have hlen:l.length=(out++gs).length:=by rw[t2,(rS _).length_eq]
     refine⟨?_,pH d out,fun _ _ _ _=>⟨hIp,fun q=>⟨?_,fun _=>?_⟩⟩⟩
     ·rw[e2]
      unfold cy
      rw[←hcs,hc,hw,hga]
      simp only[bne_self_eq_false,cond_false]
      rw[e1]
      simp only[Bool.not_true,cond_false]
      rw[t1]
      simp only[hlen]
      rw[t2]
     ·have:=hgd.len;unfold dE;simp;omega
     ·rw[e1];exact t3
   ·have hga:∃ u,ap (fS out) out.length 0 ()=.inl u:=by
     cases e:ap (fS out) out.length 0 ()with
     |inl u=>exact⟨u,rfl⟩
     |inr u=>exact absurd ((BH out).1 e) hall
    obtain⟨u,hu⟩:=hga
    refine⟨?_,pH d out,fun _ _ s e=>by rw[hu]at e;cases e⟩
    rcases uc d out with⟨q,_⟩ | ⟨_,_,q⟩ | ⟨_,q,_⟩ | ⟨_,q,_⟩ | ⟨_,q,_⟩
    ·exact absurd hn q
    ·rw[q]
     unfold cy
     rw[←hcs,hc,hw,hu];rfl
    ·exact absurd q hall
    ·exact absurd q hall
    ·exact absurd q hall
 ·have hn:bq d out=bA d out:=by
   unfold bq
   rw[show(bA d out==0)=false by rw[beq_eq_false_iff_ne];exact hc];rfl
  have hb:(bA d out !=0)=true:=by simpa using hc
  refine⟨?_,pH d out,fun q=>by rw[←hcs,hb]at q;cases q⟩
  unfold cy an
  rw[←hcs,hn,hb];rfl
end
end Go.Sx
end
section
namespace Go.Sx
open Go.Proofs
section
variable {d:District}{c:List Claim}{l:List Order}
structure Srv (d:District)(c:List Claim)(l:List Order):Prop where
 kp:Keeps d l
 wide:(d.reaches.length:Int)*d.hours≤1024
 lim:Lim d l
 met:∀ f h:Int,kz c f h≤cp (Eg f h) l
theorem Lx {f h:Int}{x y:Order}(hx:Eg f h x=true)(hy:Eg f h y=true):K x y:=by
 unfold Eg at hx hy
 simp only[Bool.and_eq_true,beq_iff_eq]at hx hy
 exact⟨by rw[hx.2,hy.2],by rw[hx.1.2,hy.1.2],by rw[hx.1.1,hy.1.1]⟩
theorem Srv.dom (h:Srv d c l)(hc:bu d c=0):∀ x∈ar c,∃ z∈l,K z x∧x.litres≤z.litres:=fun x hx=>by
 have ho:=outs (x8 hc)
 have h1:=ho.lit x hx
 have h2:=h.met x.index x.hour
 obtain⟨z,hz,hp⟩:=HC (p:=Eg x.index x.hour) (l:=l) (by omega)
 have e:cp (Eg x.index x.hour) l=z.litres:=rT h.kp.good.keys (fun _ _ h1 h2=>Lx h1 h2) hz hp
 refine⟨z,hz,?_,by omega⟩
 unfold Eg at hp
 simp only[Bool.and_eq_true,beq_iff_eq]at hp
 exact⟨hp.2,hp.1.2,by rw[hp.1.1,ho.out x hx]⟩
theorem Srv.ask (h:Srv d c l)(hc:bu d c=0):Askd d c:=by
 refine⟨hc,h.wide,fun x hx=>?_⟩
 obtain⟨z,hz,_,hl⟩:=h.dom hc x hx
 have:=(h.kp.good.one z hz).litres
 omega
end
end Go.Sx
end
section
namespace Go.Sx
open Go.Proofs
section
variable {d:District}{c:List Claim}{l:List Order}
theorem Ly (hc:bu d c=0){f h:Int}(hn:kz c f h≠0):0≤f∧f< (d.farms.length:Int)∧0≤h∧h<d.hours:=by
 obtain⟨a,ha,e⟩:=ud hn
 have hk:=((jL d c).1 hc).2.2.1 a ha
 unfold okC at hk
 simp only[Bool.and_eq_true,decide_eq_true_eq]at hk
 unfold oP oV at e
 simp only[CertifyPlace.mk.injEq]at e
 omega
end
end Go.Sx
end
section
namespace Go.Sx
open Go.Proofs Go.Shelf Go.Sort Go.Lib
set_option maxRecDepth 100000
theorem IR {c:List Claim}(h:okL1 c)(f t:Int):fj c f t=kz c f t:=by
 obtain⟨s',e,hs⟩:=xm (step:=iL c f t) (fun j s=>s=kz (c.take j) f t) c.length 0 0 rfl fun j s _ hj q=>by
  have hj':j<c.length:=by omega
  have b:=CC (h.take (j+1)) f t
  have tk:=Bu hj' f t
  refine⟨kz (c.take (j+1)) f t,?_,rfl⟩
  unfold iL
  rw[cm c default hj',q]
  by_cases hc:oP f t=oV c[j]
  ·rw[if_pos hc]at tk
   unfold oP oV at hc
   simp only[CertifyPlace.mk.injEq,and_true]at hc
   rw[show(c[j].farm==f)=true by rw[beq_iff_eq];exact hc.2.symm,show(c[j].hour==t)=true by rw[beq_iff_eq];exact hc.1.symm]
   simp only[Bool.and_self,cond_true]
   rw[←tk,bv (by omega) (by omega)]
  ·rw[if_neg hc,Int.add_zero]at tk
   have:((c[j].farm==f)&&(c[j].hour==t))=false:=by
    rw[Bool.and_eq_false_iff,beq_eq_false_iff_ne,beq_eq_false_iff_ne]
    by_cases q1:c[j].farm=f
    ·by_cases q2:c[j].hour=t
     ·exact absurd (by unfold oP oV;rw[q1,q2]) hc
     ·exact .inr q2
    ·exact .inl q1
   rw[this,cond_false,tk]
 unfold fj
 rw[e]
 rw[hs,Nat.zero_add,List.take_length]
structure OT (d:District)(c:List Claim)(t f:Nat)(o:List Order):Prop where
 out:∀ x∈o,x.outlet=true
 asc:o.Pairwise olt
 lit:∀ x∈o,x.litres=kz c x.index x.hour∧1≤x.litres
 pos:∀ x∈o,x.hour< (t:Int)∨x.hour=(t:Int)∧x.index< (f:Int)
 all:∀ a b:Nat,b<t∨b=t∧a<f→a<d.farms.length→kz c a b≠0→∃ x∈o,x.index=(a:Int)∧x.hour=(b:Int)
 len:o.length≤t*d.farms.length+f
theorem OT.step {d:District}{c:List Claim}(hc:okL1 c){t f:Nat}{o:List Order}(p:OT d c t f o):∃ o',ez d c t f o=.inr o'∧OT d c t (f+1) o':=by
 have hn:=CC hc f t
 unfold ez
 rw[IR hc]
 by_cases h:kz c f t > 0
 ·rw[decide_eq_true h,cond_true]
  refine⟨_,rfl,fun x hx=>?_,?_,fun x hx=>?_,fun x hx=>?_,fun a b hab ha hs=>?_,?_⟩
  ·rcases List.mem_append.1 hx with q|q
   ·exact p.out x q
   ·rw[List.mem_singleton.1 q]
  ·rw[List.pairwise_append]
   refine⟨p.asc,List.pairwise_singleton _ _,fun x hx y hy=>?_⟩
   rw[List.mem_singleton.1 hy]
   have h1:=p.pos x hx
   have h2:=p.out x hx
   unfold olt oy
   rw[h2]
   simp only[cond_true]
   rcases h1 with h1| ⟨h1,h3⟩
   ·exact .inl h1
   ·exact .inr ⟨h1,.inr ⟨trivial,h3⟩⟩
  ·rcases List.mem_append.1 hx with q|q
   ·exact p.lit x q
   ·rw[List.mem_singleton.1 q];exact⟨rfl,by simp only;omega⟩
  ·rcases List.mem_append.1 hx with q|q
   ·have:=p.pos x q;omega
   ·rw[List.mem_singleton.1 q];exact .inr ⟨rfl,by simp only;omega⟩
  ·by_cases q:b<t∨b=t∧a<f
   ·obtain⟨x,hx,e⟩:=p.all a b q ha hs
    exact⟨x,List.mem_append_left _ hx,e⟩
   ·have:b=t∧a=f:=by omega
    refine⟨_,List.mem_append_right _ (List.mem_singleton.2 rfl),?_,?_⟩
    ·simp only;omega
    ·simp only;omega
  ·rw[List.length_append]
   have:=p.len
   simp only[List.length_cons,List.length_nil];omega
 ·rw[decide_eq_false h,cond_false]
  refine⟨_,rfl,p.out,p.asc,p.lit,fun x hx=>by have:=p.pos x hx;omega,fun a b hab ha hs=>?_,by have:=p.len;omega⟩
  by_cases q:b<t∨b=t∧a<f
  ·exact p.all a b q ha hs
  ·have e:b=t∧a=f:=by omega
   rw[e.1,e.2]at hs
   omega
theorem OT.next {d:District}{c:List Claim}{t:Nat}{o:List Order}(p:OT d c t d.farms.length o):OT d c (t+1) 0 o:=
 ⟨p.out,p.asc,p.lit,fun x hx=>(by have:=p.pos x hx;omega),fun a b hab ha hs=>p.all a b (by omega) ha hs,(by have:=p.len;rw[Nat.add_mul];omega)⟩
theorem IS {c:List Claim}{o1 o2:List Order}(a1:∀ x∈o1,x.outlet=true)(a2:o1.Pairwise olt)(a3:∀ x∈o1,x.litres=kz c x.index x.hour∧1≤x.litres)(a4:∀ f h,kz c f h≠0→∃ x∈o1,x.index=f∧x.hour=h)
  (b1:∀ x∈o2,x.outlet=true) (b2:o2.Pairwise olt) (b3:∀ x∈o2,x.litres=kz c x.index x.hour∧1≤x.litres) (b4:∀ f h,kz c f h≠0→∃ x∈o2,x.index=f∧x.hour=h):o1=o2:=by
 have key:∀ p q:List Order,(∀ x∈p,x.outlet=true)→(∀ x∈p,x.litres=kz c x.index x.hour∧1≤x.litres)→(∀ x∈q,x.outlet=true)→(∀ x∈q,x.litres=kz c x.index x.hour∧1≤x.litres)→(∀ f h,kz c f h≠0→∃ x∈q,x.index=f∧x.hour=h)→∀ x∈p,x∈q:=by
  intro p q c1 c2 c3 c4 c5 x hx
  have h1:=c2 x hx
  obtain⟨y,hy,e1,e2⟩:=c5 x.index x.hour (by omega)
  have h2:=c4 y hy
  have:x=y:=by
   have o1:=c1 x hx
   have o2:=c3 y hy
   rw[e1,e2]at h2
   cases x;cases y
   simp only at *
   subst e1 e2
   rw[o1,o2,h1.1,h2.1]
  rw[this];exact hy
 refine List.Perm.eq_of_pairwise (fun a b _ _ h1 h2=>absurd h2 (fun h2=>by unfold olt at h1 h2;omega)) a2 b2 ?_
 exact(List.perm_ext_iff_of_nodup (CR (a2.imp fun {_ _} a=>zx a)) (CR (b2.imp fun {_ _} a=>zx a))).2 fun x=>⟨key o1 o2 a1 a3 b1 b3 b4 x,key o2 o1 b1 b3 a1 a3 a4 x⟩
theorem BI {d:District}{c:List Claim}(hc:bu d c=0):az d c=ar c∧eX d c:=by
 have hk:=x8 hc
 have hO:=outs hk
 have hr:=Ep hc
 have hH:=hr.hours;have hH1:=hr.hours1;have hFl:=hr.farms
 have st1:∀ t o,OT d c t 0 o→(∃ o',fu d c t o=.inr o'∧OT d c (t+1) 0 o')∧(t<d.hours.toNat→okI (ez d c t) (gL d c t) d.farms.length 0 o):=fun t o p=>by
  obtain⟨o',e,q⟩:=xm (step:=ez d c t) (fun f o=>OT d c t f o) d.farms.length 0 o p fun f o _ _ q=>q.step hk
  refine⟨⟨o',by unfold fu;rw[e],(by rw[Nat.zero_add]at q;exact q.next)⟩,fun ht=>?_⟩
  refine fZ (fun f o=>OT d c t f o) d.farms.length 0 o p fun f o _ hf q=>⟨fun _ _=>?_,fun s' e=>?_⟩
  ·have:=q.len
   have h2:t*d.farms.length≤4096*600:=Nat.mul_le_mul (by omega) hFl
   rw[List.length_append]
   unfold dE
   simp only[List.length_cons,List.length_nil]
   omega
  ·obtain⟨o',e',q'⟩:=q.step hk
   rw[e']at e;cases e;exact q'
 have p0:OT d c 0 0 []:=⟨fun x hx=>(by cases hx),List.Pairwise.nil,fun x hx=>(by cases hx),fun x hx=>(by cases hx),fun a b hab ha hs=>(by omega),Nat.zero_le _⟩
 obtain⟨o',e,q⟩:=xm (step:=fu d c) (fun t o=>OT d c t 0 o) d.hours.toNat 0 [] p0 fun t o _ _ q=>(st1 t o q).1
 rw[Nat.zero_add]at q
 have hall:∀ f h,kz c f h≠0→∃ x∈o',x.index=f∧x.hour=h:=fun f h hn=>by
  obtain⟨h1,h2,h3,h4⟩:=Ly hc hn
  obtain⟨x,hx,e1,e2⟩:=q.all f.toNat h.toNat (by omega) (by omega) (by rw[Int.toNat_of_nonneg h1,Int.toNat_of_nonneg h3];exact hn)
  exact⟨x,hx,by omega,by omega⟩
 have heq:o'=ar c:=IS q.out q.asc q.lit hall hO.out hO.asc hO.lit hO.all
 refine⟨?_,fun _ _=>⟨by omega,?_⟩⟩
 ·unfold az
  cases c with
  |nil=>
   have:ar []=[]:=List.eq_nil_of_length_eq_zero (by have:=hO.len;simpa using this)
   rw[this];rfl
  |cons a r=>
   rw[show(((a::r).length:Int) ==0)=false by rw[beq_eq_false_iff_ne,List.length_cons];omega,cond_false,e]
   exact heq
 ·refine fZ (fun t o=>OT d c t 0 o) d.hours.toNat 0 [] p0 fun t o _ ht q=>⟨(st1 t o q).2 (by omega),fun s' e=>?_⟩
  obtain⟨o',e',q'⟩:=(st1 t o q).1
  rw[e']at e;cases e;exact q'
theorem N4 {ρ:Type}{step:Nat→Unit→ρ⊕Unit}{n:Nat}(h:¬ ∀ j,j<n→step j ()=.inr ()):∃ y,ap step n 0 ()=.inl y:=by
 cases e:ap step n 0 ()with
 |inl y=>exact⟨y,rfl⟩
 |inr u=>exact absurd (fun j hj=>zm e j (Nat.zero_le _) (by omega)) h
theorem HK (d:District)(c:List Claim):dR d c=(aj d c).2∧jo d c:=by
 by_cases h1:bu d c=0
 ·have h26:gx d c=0:=by rw[←wM];exact h1
  have hw:=CH h1
  obtain⟨o1,o2⟩:=BI h1
  refine⟨?_,BF d c,fun _ _ _=>o2⟩
  unfold dR aj
  rw[h26,h1,hw,o1]
  simp only[bne_self_eq_false,cond_false]
  by_cases h2:(d.reaches.length:Int)*d.hours > 1024
  ·rw[decide_eq_true h2];rfl
  ·rw[decide_eq_false h2]
   simp only[cond_false]
   have hst:∀ j,gi d c j ()=bif decide (((ar c).getD j default).litres > 1073741824)then .inl ()else .inr ():=fun j=>by
    unfold gi;rw[o1]
   cases h3:aJ (ar c)with
   |true=>
    obtain⟨x,hx,hl⟩:=(lQ _).1 h3
    obtain⟨j,hj,rfl⟩:=List.getElem_of_mem hx
    obtain⟨y,hy⟩:=N4 (step:=gi d c) (n:=(ar c).length) fun q=>by
     have:=q j hj
     rw[hst,cm _ default hj,decide_eq_true hl]at this;cases this
    rw[hy];rfl
   |false=>
    have:ap (gi d c) (ar c).length 0 ()=.inr ():=sN fun j _ hj=>by
     have hj':j< (ar c).length:=by omega
     rw[hst,cm _ default hj']
     by_cases q:(ar c)[j].litres > 1073741824
     ·have:=(lQ _).2 ⟨_,List.getElem_mem hj',q⟩
      rw[h3]at this;cases this
     ·rw[decide_eq_false q];rfl
    rw[this];rfl
 ·have hb:(bu d c !=0)=true:=by simpa using h1
  refine⟨?_,BF d c,fun q=>by rw[←wM,hb]at q;cases q⟩
  unfold dR aj
  rw[←wM,hb];rfl
end Go.Sx
end
section
namespace Go.Sx
section
variable {σ ρ:Type}{D:Nat→σ→St}{n0 k:Nat}{st:St}{c:Bool}{a b:ρ⊕σ}
theorem N5 (h:c=true)(g:mr D n0 k st a):mr D n0 k st (bif c then a else b):=by rw[h];exact g
theorem N6 (h:c=false)(g:mr D n0 k st b):mr D n0 k st (bif c then a else b):=by rw[h];exact g
end
end Go.Sx
end
section
namespace Go.Sx
open Go.Proofs
set_option maxRecDepth 100000
set_option linter.unusedSimpArgs false
theorem Lz {p:Prop}(h:p:=by(first|done|(repeat' (first|with_reducible refine And.intro ?_ ?_|((with_reducible show _≠_);first|assumption|omega|(simp_all [aX,bf];done) |grind) |with_reducible intro _)) <;>(first|done|exact Empty.elim ‹Empty› |assumption|rfl|omega|decide|exact fk [0,1,2,3,6] |exact fk [0,1,2,3,4] |exact czl|(simp only[*,cond_true,cond_false,Bool.not_true,Bool.not_false,go_sem,Nat.reduceBEq,Nat.reduceLeDiff,Nat.reduceLT,decide_true,Nat.reduceAdd,Nat.reduceSub,Nat.reduceMul,Int.reduceLE,Int.reduceLT,Int.reduceToNat,Int.reduceNeg,reduceCtorEq];(repeat' (first|with_reducible refine And.intro ?_ ?_|((with_reducible show _≠_);first|assumption|omega|(simp_all [aX,bf];done) |grind) |with_reducible intro _)) <;>(first|done|assumption|rfl|omega|decide|exact fk [0,1,2,3,6] |exact fk [0,1,2,3,4] |(simp_all [aX,bf];done))) |(simp_all [okI,aX,bf];done) |(simp_all [aX,bf];(first|done|exact fk2 [0,1,2,3,6] |exact fk2 [0,1,2,3,4])) |exact fk2 [0,1,2,3,6] |exact fk2 [0,1,2,3,4]))):p:=h
theorem EP {p:Prop}(h:p:=by(first|done|(repeat' (first|with_reducible refine And.intro ?_ ?_|((with_reducible show _≠_);first|assumption|omega|(simp_all [aX,bf];done) |grind) |with_reducible intro _)) <;>(first|done|exact Empty.elim ‹Empty› |assumption|rfl|omega|decide|exact fk [0,1,2,3,4,5,6] |exact fk [0,1,2,3,4,5,8] |exact czl|(simp only[*,cond_true,cond_false,Bool.not_true,Bool.not_false,go_sem,Nat.reduceBEq,Nat.reduceLeDiff,Nat.reduceLT,decide_true,Nat.reduceAdd,Nat.reduceSub,Nat.reduceMul,Int.reduceLE,Int.reduceLT,Int.reduceToNat,Int.reduceNeg,reduceCtorEq];(repeat' (first|with_reducible refine And.intro ?_ ?_|((with_reducible show _≠_);first|assumption|omega|(simp_all [aX,bf];done) |grind) |with_reducible intro _)) <;>(first|done|assumption|rfl|omega|decide|exact fk [0,1,2,3,4,5,6] |exact fk [0,1,2,3,4,5,8] |(simp_all [aX,bf];done))) |(simp_all [okI,aX,bf];done) |(simp_all [aX,bf];(first|done|exact fk2 [0,1,2,3,4,5,6] |exact fk2 [0,1,2,3,4,5,8])) |exact fk2 [0,1,2,3,4,5,6] |exact fk2 [0,1,2,3,4,5,8]))):p:=h
theorem LA {p:Prop}(h:p:=by simp only[go_sem,Nat.reduceBEq,Nat.reduceLeDiff,Nat.reduceLT,decide_true,Nat.reduceAdd,Nat.reduceSub,Nat.reduceMul,Int.reduceLE,Int.reduceLT,Int.reduceToNat,Int.reduceNeg,reduceCtorEq];all_goals exact sb):p:=h
theorem LB {p:Prop}(h:p:=by simp only[go_sem,Nat.reduceBEq,Nat.reduceLeDiff,Nat.reduceLT,decide_true,Nat.reduceAdd,Nat.reduceSub,Nat.reduceMul,Int.reduceLE,Int.reduceLT,Int.reduceToNat,Int.reduceNeg,reduceCtorEq,hc,hw];all_goals exact rW):p:=h
theorem LD {p:Prop}(h:p:=by simp only[go_sem,Nat.reduceBEq,Nat.reduceLeDiff,Nat.reduceLT,decide_true,Nat.reduceAdd,Nat.reduceSub,Nat.reduceMul,Int.reduceLE,Int.reduceLT,Int.reduceToNat,Int.reduceNeg,reduceCtorEq,hc];all_goals exact rW):p:=h
theorem LF {p:Prop}(h:p:=by simp only[go_sem,Nat.reduceBEq,Nat.reduceLeDiff,Nat.reduceLT,decide_true,Nat.reduceAdd,Nat.reduceSub,Nat.reduceMul,Int.reduceLE,Int.reduceLT,Int.reduceToNat,Int.reduceNeg,reduceCtorEq];all_goals exact Lz):p:=h
theorem LG {p:Prop}(h:p:=by simp only[go_sem,Nat.reduceBEq,Nat.reduceLeDiff,Nat.reduceLT,decide_true,Nat.reduceAdd,Nat.reduceSub,Nat.reduceMul,Int.reduceLE,Int.reduceLT,Int.reduceToNat,Int.reduceNeg,reduceCtorEq,hc];all_goals exact EP):p:=h
@[go_sem] def cW (a0:District)(k_0:Nat)(s_0:List (List Int)×Int):(List (List Int))⊕(List (List Int)×Int):=(bif(decide (s_0.2< (s_0.1.length:Int)))then .inr ((s_0.1.set (Int.toNat s_0.2) (List.replicate (Int.toNat a0.hours) (0:Int))),(IntKind.i64.wrap (s_0.2+1)))else .inl s_0.1)
def jD (a0:District)(k_0:Nat)(s_0:List (List Int)×Int):Prop:=(s_0.1.length≤a7→((decide (s_0.2< (s_0.1.length:Int)))=true→((a0.hours=a0.hours∧0≤a0.hours∧a0.hours*((8:Nat):Int)≤((dE:Nat):Int))∧(a0.hours≤((a7:Nat):Int)→(0≤s_0.2∧s_0.2< (s_0.1.length:Int))))))
@[go_sem] def eC (a0:District)(a1:List Claim)(k_1:Nat)(s_1:List (List Int)):Empty⊕(List (List Int)):=.inr (s_1.set (Int.toNat ((a0.farms.getD (Int.toNat (((az a0 a1).getD k_1 (default:Order)).index)) (default:Farm)).reach)) ((s_1.getD (Int.toNat ((a0.farms.getD (Int.toNat (((az a0 a1).getD k_1 (default:Order)).index)) (default:Farm)).reach)) []).set (Int.toNat (((az a0 a1).getD k_1 (default:Order)).hour)) (IntKind.i64.wrap (((s_1.getD (Int.toNat ((a0.farms.getD (Int.toNat (((az a0 a1).getD k_1 (default:Order)).index)) (default:Farm)).reach)) []).getD (Int.toNat (((az a0 a1).getD k_1 (default:Order)).hour)) (0:Int))+((az a0 a1).getD k_1 (default:Order)).litres))))
def gV (a0:District)(a1:List Claim)(k_1:Nat)(s_1:List (List Int)):Prop:=((az a0 a1).length≤a7→((0≤((az a0 a1).getD k_1 (default:Order)).index∧((az a0 a1).getD k_1 (default:Order)).index< (a0.farms.length:Int))∧((0≤(a0.farms.getD (Int.toNat (((az a0 a1).getD k_1 (default:Order)).index)) (default:Farm)).reach∧(a0.farms.getD (Int.toNat (((az a0 a1).getD k_1 (default:Order)).index)) (default:Farm)).reach< (s_1.length:Int))∧((0≤(a0.farms.getD (Int.toNat (((az a0 a1).getD k_1 (default:Order)).index)) (default:Farm)).reach∧(a0.farms.getD (Int.toNat (((az a0 a1).getD k_1 (default:Order)).index)) (default:Farm)).reach< (s_1.length:Int))∧((0≤((az a0 a1).getD k_1 (default:Order)).hour∧((az a0 a1).getD k_1 (default:Order)).hour< ((s_1.getD (Int.toNat ((a0.farms.getD (Int.toNat (((az a0 a1).getD k_1 (default:Order)).index)) (default:Farm)).reach)) []).length:Int))∧(0≤((az a0 a1).getD k_1 (default:Order)).hour∧((az a0 a1).getD k_1 (default:Order)).hour< ((s_1.getD (Int.toNat ((a0.farms.getD (Int.toNat (((az a0 a1).getD k_1 (default:Order)).index)) (default:Farm)).reach)) []).length:Int)))))))
@[go_sem] def fl (a0:District)(s_2:List (List Int)×List Fault×Int)(k_3:Nat)(s_3:List Fault×List (List Int)):Empty⊕(List Fault×List (List Int)):=(bif(((s_3.2.getD (Int.toNat s_2.2.2) []).getD k_3 (0:Int)) ==0)then .inr (s_3.1,s_3.2)else(bif(decide (((s_3.2.getD (Int.toNat s_2.2.2) []).getD k_3 (0:Int)) > 0))then(bif((!(bG (a0.reaches.getD (Int.toNat s_2.2.2) (default:Reach)) ((s_3.2.getD (Int.toNat s_2.2.2) []).getD k_3 (0:Int))).2) ||(decide ((k_3:Int) < (a0.reaches.getD (Int.toNat s_2.2.2) (default:Reach)).delay)))then(bif((s_2.2.2==0) ||(decide ((k_3:Int) < (a0.reaches.getD (Int.toNat s_2.2.2) (default:Reach)).delay)))then .inr ((s_3.1++([({ kind:=7,hour:=(k_3:Int),index:=s_2.2.2,litres:=((s_3.2.getD (Int.toNat s_2.2.2) []).getD k_3 (0:Int)),limit:=0}:Fault)])),s_3.2)else(bif(!(bG (a0.reaches.getD (Int.toNat s_2.2.2) (default:Reach)) ((s_3.2.getD (Int.toNat s_2.2.2) []).getD k_3 (0:Int))).2)then .inr ((s_3.1++([({ kind:=7,hour:=(k_3:Int),index:=s_2.2.2,litres:=((s_3.2.getD (Int.toNat s_2.2.2) []).getD k_3 (0:Int)),limit:=0}:Fault)])),(s_3.2.set (Int.toNat ((a0.reaches.getD (Int.toNat s_2.2.2) (default:Reach)).up)) ((s_3.2.getD (Int.toNat ((a0.reaches.getD (Int.toNat s_2.2.2) (default:Reach)).up)) []).set (Int.toNat (IntKind.i64.wrap ((k_3:Int) - (a0.reaches.getD (Int.toNat s_2.2.2) (default:Reach)).delay))) (-1))))else(bif(decide (((s_3.2.getD (Int.toNat ((a0.reaches.getD (Int.toNat s_2.2.2) (default:Reach)).up)) []).getD (Int.toNat (IntKind.i64.wrap ((k_3:Int) - (a0.reaches.getD (Int.toNat s_2.2.2) (default:Reach)).delay))) (0:Int))≥0))then .inr ((s_3.1++([({ kind:=7,hour:=(k_3:Int),index:=s_2.2.2,litres:=((s_3.2.getD (Int.toNat s_2.2.2) []).getD k_3 (0:Int)),limit:=0}:Fault)])),(s_3.2.set (Int.toNat ((a0.reaches.getD (Int.toNat s_2.2.2) (default:Reach)).up)) ((s_3.2.getD (Int.toNat ((a0.reaches.getD (Int.toNat s_2.2.2) (default:Reach)).up)) []).set (Int.toNat (IntKind.i64.wrap ((k_3:Int) - (a0.reaches.getD (Int.toNat s_2.2.2) (default:Reach)).delay))) (IntKind.i64.wrap (((s_3.2.getD (Int.toNat ((a0.reaches.getD (Int.toNat s_2.2.2) (default:Reach)).up)) []).getD (Int.toNat (IntKind.i64.wrap ((k_3:Int) - (a0.reaches.getD (Int.toNat s_2.2.2) (default:Reach)).delay))) (0:Int))+(bG (a0.reaches.getD (Int.toNat s_2.2.2) (default:Reach)) ((s_3.2.getD (Int.toNat s_2.2.2) []).getD k_3 (0:Int))).1)))))else .inr ((s_3.1++([({ kind:=7,hour:=(k_3:Int),index:=s_2.2.2,litres:=((s_3.2.getD (Int.toNat s_2.2.2) []).getD k_3 (0:Int)),limit:=0}:Fault)])),s_3.2))))else(bif((s_2.2.2==0) ||(decide ((k_3:Int) < (a0.reaches.getD (Int.toNat s_2.2.2) (default:Reach)).delay)))then .inr (s_3.1,s_3.2)else(bif(!(bG (a0.reaches.getD (Int.toNat s_2.2.2) (default:Reach)) ((s_3.2.getD (Int.toNat s_2.2.2) []).getD k_3 (0:Int))).2)then .inr (s_3.1,(s_3.2.set (Int.toNat ((a0.reaches.getD (Int.toNat s_2.2.2) (default:Reach)).up)) ((s_3.2.getD (Int.toNat ((a0.reaches.getD (Int.toNat s_2.2.2) (default:Reach)).up)) []).set (Int.toNat (IntKind.i64.wrap ((k_3:Int) - (a0.reaches.getD (Int.toNat s_2.2.2) (default:Reach)).delay))) (-1))))else(bif(decide (((s_3.2.getD (Int.toNat ((a0.reaches.getD (Int.toNat s_2.2.2) (default:Reach)).up)) []).getD (Int.toNat (IntKind.i64.wrap ((k_3:Int) - (a0.reaches.getD (Int.toNat s_2.2.2) (default:Reach)).delay))) (0:Int))≥0))then .inr (s_3.1,(s_3.2.set (Int.toNat ((a0.reaches.getD (Int.toNat s_2.2.2) (default:Reach)).up)) ((s_3.2.getD (Int.toNat ((a0.reaches.getD (Int.toNat s_2.2.2) (default:Reach)).up)) []).set (Int.toNat (IntKind.i64.wrap ((k_3:Int) - (a0.reaches.getD (Int.toNat s_2.2.2) (default:Reach)).delay))) (IntKind.i64.wrap (((s_3.2.getD (Int.toNat ((a0.reaches.getD (Int.toNat s_2.2.2) (default:Reach)).up)) []).getD (Int.toNat (IntKind.i64.wrap ((k_3:Int) - (a0.reaches.getD (Int.toNat s_2.2.2) (default:Reach)).delay))) (0:Int))+(bG (a0.reaches.getD (Int.toNat s_2.2.2) (default:Reach)) ((s_3.2.getD (Int.toNat s_2.2.2) []).getD k_3 (0:Int))).1)))))else .inr (s_3.1,s_3.2)))))else(bif((s_2.2.2==0) ||(decide ((k_3:Int) < (a0.reaches.getD (Int.toNat s_2.2.2) (default:Reach)).delay)))then .inr (s_3.1,s_3.2)else(bif(!(decide (((s_3.2.getD (Int.toNat s_2.2.2) []).getD k_3 (0:Int)) > 0)))then .inr (s_3.1,(s_3.2.set (Int.toNat ((a0.reaches.getD (Int.toNat s_2.2.2) (default:Reach)).up)) ((s_3.2.getD (Int.toNat ((a0.reaches.getD (Int.toNat s_2.2.2) (default:Reach)).up)) []).set (Int.toNat (IntKind.i64.wrap ((k_3:Int) - (a0.reaches.getD (Int.toNat s_2.2.2) (default:Reach)).delay))) (-1))))else(bif(decide (((s_3.2.getD (Int.toNat ((a0.reaches.getD (Int.toNat s_2.2.2) (default:Reach)).up)) []).getD (Int.toNat (IntKind.i64.wrap ((k_3:Int) - (a0.reaches.getD (Int.toNat s_2.2.2) (default:Reach)).delay))) (0:Int))≥0))then .inr (s_3.1,(s_3.2.set (Int.toNat ((a0.reaches.getD (Int.toNat s_2.2.2) (default:Reach)).up)) ((s_3.2.getD (Int.toNat ((a0.reaches.getD (Int.toNat s_2.2.2) (default:Reach)).up)) []).set (Int.toNat (IntKind.i64.wrap ((k_3:Int) - (a0.reaches.getD (Int.toNat s_2.2.2) (default:Reach)).delay))) (IntKind.i64.wrap (((s_3.2.getD (Int.toNat ((a0.reaches.getD (Int.toNat s_2.2.2) (default:Reach)).up)) []).getD (Int.toNat (IntKind.i64.wrap ((k_3:Int) - (a0.reaches.getD (Int.toNat s_2.2.2) (default:Reach)).delay))) (0:Int))+0)))))else .inr (s_3.1,s_3.2))))))
def fF (a0:District)(s_2:List (List Int)×List Fault×Int)(k_3:Nat)(s_3:List Fault×List (List Int)):Prop:=((0≤s_2.2.2∧s_2.2.2< (s_3.2.length:Int))∧((0≤(k_3:Int)∧(k_3:Int) < ((s_3.2.getD (Int.toNat s_2.2.2) []).length:Int))∧((((s_3.2.getD (Int.toNat s_2.2.2) []).getD k_3 (0:Int)) ==0)=false→((0≤s_2.2.2∧s_2.2.2< (s_3.2.length:Int))∧((0≤(k_3:Int)∧(k_3:Int) < ((s_3.2.getD (Int.toNat s_2.2.2) []).length:Int))∧(((decide (((s_3.2.getD (Int.toNat s_2.2.2) []).getD k_3 (0:Int)) > 0))=true→((0≤s_2.2.2∧s_2.2.2< (s_3.2.length:Int))∧((0≤(k_3:Int)∧(k_3:Int) < ((s_3.2.getD (Int.toNat s_2.2.2) []).length:Int))∧((kM (a0.reaches.getD (Int.toNat s_2.2.2) (default:Reach)) ((s_3.2.getD (Int.toNat s_2.2.2) []).getD k_3 (0:Int)))∧((((!(bG (a0.reaches.getD (Int.toNat s_2.2.2) (default:Reach)) ((s_3.2.getD (Int.toNat s_2.2.2) []).getD k_3 (0:Int))).2) ||(decide ((k_3:Int) < (a0.reaches.getD (Int.toNat s_2.2.2) (default:Reach)).delay)))=true→((0≤s_2.2.2∧s_2.2.2< (s_3.2.length:Int))∧((0≤(k_3:Int)∧(k_3:Int) < ((s_3.2.getD (Int.toNat s_2.2.2) []).length:Int))∧(((s_3.1++([({ kind:=7,hour:=(k_3:Int),index:=s_2.2.2,litres:=((s_3.2.getD (Int.toNat s_2.2.2) []).getD k_3 (0:Int)),limit:=0}:Fault)])).length*40≤dE)∧((s_3.1++([({ kind:=7,hour:=(k_3:Int),index:=s_2.2.2,litres:=((s_3.2.getD (Int.toNat s_2.2.2) []).getD k_3 (0:Int)),limit:=0}:Fault)])).length≤a7→(((s_2.2.2==0) ||(decide ((k_3:Int) < (a0.reaches.getD (Int.toNat s_2.2.2) (default:Reach)).delay)))=false→(((!(bG (a0.reaches.getD (Int.toNat s_2.2.2) (default:Reach)) ((s_3.2.getD (Int.toNat s_2.2.2) []).getD k_3 (0:Int))).2)=true→((0≤(a0.reaches.getD (Int.toNat s_2.2.2) (default:Reach)).up∧(a0.reaches.getD (Int.toNat s_2.2.2) (default:Reach)).up< (s_3.2.length:Int))∧(0≤(IntKind.i64.wrap ((k_3:Int) - (a0.reaches.getD (Int.toNat s_2.2.2) (default:Reach)).delay))∧(IntKind.i64.wrap ((k_3:Int) - (a0.reaches.getD (Int.toNat s_2.2.2) (default:Reach)).delay)) < ((s_3.2.getD (Int.toNat ((a0.reaches.getD (Int.toNat s_2.2.2) (default:Reach)).up)) []).length:Int))))∧((!(bG (a0.reaches.getD (Int.toNat s_2.2.2) (default:Reach)) ((s_3.2.getD (Int.toNat s_2.2.2) []).getD k_3 (0:Int))).2)=false→((0≤(a0.reaches.getD (Int.toNat s_2.2.2) (default:Reach)).up∧(a0.reaches.getD (Int.toNat s_2.2.2) (default:Reach)).up< (s_3.2.length:Int))∧((0≤(IntKind.i64.wrap ((k_3:Int) - (a0.reaches.getD (Int.toNat s_2.2.2) (default:Reach)).delay))∧(IntKind.i64.wrap ((k_3:Int) - (a0.reaches.getD (Int.toNat s_2.2.2) (default:Reach)).delay)) < ((s_3.2.getD (Int.toNat ((a0.reaches.getD (Int.toNat s_2.2.2) (default:Reach)).up)) []).length:Int))∧((decide (((s_3.2.getD (Int.toNat ((a0.reaches.getD (Int.toNat s_2.2.2) (default:Reach)).up)) []).getD (Int.toNat (IntKind.i64.wrap ((k_3:Int) - (a0.reaches.getD (Int.toNat s_2.2.2) (default:Reach)).delay))) (0:Int))≥0))=true→((0≤(a0.reaches.getD (Int.toNat s_2.2.2) (default:Reach)).up∧(a0.reaches.getD (Int.toNat s_2.2.2) (default:Reach)).up< (s_3.2.length:Int))∧((0≤(a0.reaches.getD (Int.toNat s_2.2.2) (default:Reach)).up∧(a0.reaches.getD (Int.toNat s_2.2.2) (default:Reach)).up< (s_3.2.length:Int))∧((0≤(IntKind.i64.wrap ((k_3:Int) - (a0.reaches.getD (Int.toNat s_2.2.2) (default:Reach)).delay))∧(IntKind.i64.wrap ((k_3:Int) - (a0.reaches.getD (Int.toNat s_2.2.2) (default:Reach)).delay)) < ((s_3.2.getD (Int.toNat ((a0.reaches.getD (Int.toNat s_2.2.2) (default:Reach)).up)) []).length:Int))∧(0≤(IntKind.i64.wrap ((k_3:Int) - (a0.reaches.getD (Int.toNat s_2.2.2) (default:Reach)).delay))∧(IntKind.i64.wrap ((k_3:Int) - (a0.reaches.getD (Int.toNat s_2.2.2) (default:Reach)).delay)) < ((s_3.2.getD (Int.toNat ((a0.reaches.getD (Int.toNat s_2.2.2) (default:Reach)).up)) []).length:Int))))))))))))))))∧(((!(bG (a0.reaches.getD (Int.toNat s_2.2.2) (default:Reach)) ((s_3.2.getD (Int.toNat s_2.2.2) []).getD k_3 (0:Int))).2) ||(decide ((k_3:Int) < (a0.reaches.getD (Int.toNat s_2.2.2) (default:Reach)).delay)))=false→(((s_2.2.2==0) ||(decide ((k_3:Int) < (a0.reaches.getD (Int.toNat s_2.2.2) (default:Reach)).delay)))=false→(((!(bG (a0.reaches.getD (Int.toNat s_2.2.2) (default:Reach)) ((s_3.2.getD (Int.toNat s_2.2.2) []).getD k_3 (0:Int))).2)=true→((0≤(a0.reaches.getD (Int.toNat s_2.2.2) (default:Reach)).up∧(a0.reaches.getD (Int.toNat s_2.2.2) (default:Reach)).up< (s_3.2.length:Int))∧(0≤(IntKind.i64.wrap ((k_3:Int) - (a0.reaches.getD (Int.toNat s_2.2.2) (default:Reach)).delay))∧(IntKind.i64.wrap ((k_3:Int) - (a0.reaches.getD (Int.toNat s_2.2.2) (default:Reach)).delay)) < ((s_3.2.getD (Int.toNat ((a0.reaches.getD (Int.toNat s_2.2.2) (default:Reach)).up)) []).length:Int))))∧((!(bG (a0.reaches.getD (Int.toNat s_2.2.2) (default:Reach)) ((s_3.2.getD (Int.toNat s_2.2.2) []).getD k_3 (0:Int))).2)=false→((0≤(a0.reaches.getD (Int.toNat s_2.2.2) (default:Reach)).up∧(a0.reaches.getD (Int.toNat s_2.2.2) (default:Reach)).up< (s_3.2.length:Int))∧((0≤(IntKind.i64.wrap ((k_3:Int) - (a0.reaches.getD (Int.toNat s_2.2.2) (default:Reach)).delay))∧(IntKind.i64.wrap ((k_3:Int) - (a0.reaches.getD (Int.toNat s_2.2.2) (default:Reach)).delay)) < ((s_3.2.getD (Int.toNat ((a0.reaches.getD (Int.toNat s_2.2.2) (default:Reach)).up)) []).length:Int))∧((decide (((s_3.2.getD (Int.toNat ((a0.reaches.getD (Int.toNat s_2.2.2) (default:Reach)).up)) []).getD (Int.toNat (IntKind.i64.wrap ((k_3:Int) - (a0.reaches.getD (Int.toNat s_2.2.2) (default:Reach)).delay))) (0:Int))≥0))=true→((0≤(a0.reaches.getD (Int.toNat s_2.2.2) (default:Reach)).up∧(a0.reaches.getD (Int.toNat s_2.2.2) (default:Reach)).up< (s_3.2.length:Int))∧((0≤(a0.reaches.getD (Int.toNat s_2.2.2) (default:Reach)).up∧(a0.reaches.getD (Int.toNat s_2.2.2) (default:Reach)).up< (s_3.2.length:Int))∧((0≤(IntKind.i64.wrap ((k_3:Int) - (a0.reaches.getD (Int.toNat s_2.2.2) (default:Reach)).delay))∧(IntKind.i64.wrap ((k_3:Int) - (a0.reaches.getD (Int.toNat s_2.2.2) (default:Reach)).delay)) < ((s_3.2.getD (Int.toNat ((a0.reaches.getD (Int.toNat s_2.2.2) (default:Reach)).up)) []).length:Int))∧(0≤(IntKind.i64.wrap ((k_3:Int) - (a0.reaches.getD (Int.toNat s_2.2.2) (default:Reach)).delay))∧(IntKind.i64.wrap ((k_3:Int) - (a0.reaches.getD (Int.toNat s_2.2.2) (default:Reach)).delay)) < ((s_3.2.getD (Int.toNat ((a0.reaches.getD (Int.toNat s_2.2.2) (default:Reach)).up)) []).length:Int)))))))))))))))))∧((decide (((s_3.2.getD (Int.toNat s_2.2.2) []).getD k_3 (0:Int)) > 0))=false→(((s_2.2.2==0) ||(decide ((k_3:Int) < (a0.reaches.getD (Int.toNat s_2.2.2) (default:Reach)).delay)))=false→(((!(decide (((s_3.2.getD (Int.toNat s_2.2.2) []).getD k_3 (0:Int)) > 0)))=true→((0≤(a0.reaches.getD (Int.toNat s_2.2.2) (default:Reach)).up∧(a0.reaches.getD (Int.toNat s_2.2.2) (default:Reach)).up< (s_3.2.length:Int))∧(0≤(IntKind.i64.wrap ((k_3:Int) - (a0.reaches.getD (Int.toNat s_2.2.2) (default:Reach)).delay))∧(IntKind.i64.wrap ((k_3:Int) - (a0.reaches.getD (Int.toNat s_2.2.2) (default:Reach)).delay)) < ((s_3.2.getD (Int.toNat ((a0.reaches.getD (Int.toNat s_2.2.2) (default:Reach)).up)) []).length:Int))))∧((!(decide (((s_3.2.getD (Int.toNat s_2.2.2) []).getD k_3 (0:Int)) > 0)))=false→((0≤(a0.reaches.getD (Int.toNat s_2.2.2) (default:Reach)).up∧(a0.reaches.getD (Int.toNat s_2.2.2) (default:Reach)).up< (s_3.2.length:Int))∧((0≤(IntKind.i64.wrap ((k_3:Int) - (a0.reaches.getD (Int.toNat s_2.2.2) (default:Reach)).delay))∧(IntKind.i64.wrap ((k_3:Int) - (a0.reaches.getD (Int.toNat s_2.2.2) (default:Reach)).delay)) < ((s_3.2.getD (Int.toNat ((a0.reaches.getD (Int.toNat s_2.2.2) (default:Reach)).up)) []).length:Int))∧((decide (((s_3.2.getD (Int.toNat ((a0.reaches.getD (Int.toNat s_2.2.2) (default:Reach)).up)) []).getD (Int.toNat (IntKind.i64.wrap ((k_3:Int) - (a0.reaches.getD (Int.toNat s_2.2.2) (default:Reach)).delay))) (0:Int))≥0))=true→((0≤(a0.reaches.getD (Int.toNat s_2.2.2) (default:Reach)).up∧(a0.reaches.getD (Int.toNat s_2.2.2) (default:Reach)).up< (s_3.2.length:Int))∧((0≤(a0.reaches.getD (Int.toNat s_2.2.2) (default:Reach)).up∧(a0.reaches.getD (Int.toNat s_2.2.2) (default:Reach)).up< (s_3.2.length:Int))∧((0≤(IntKind.i64.wrap ((k_3:Int) - (a0.reaches.getD (Int.toNat s_2.2.2) (default:Reach)).delay))∧(IntKind.i64.wrap ((k_3:Int) - (a0.reaches.getD (Int.toNat s_2.2.2) (default:Reach)).delay)) < ((s_3.2.getD (Int.toNat ((a0.reaches.getD (Int.toNat s_2.2.2) (default:Reach)).up)) []).length:Int))∧(0≤(IntKind.i64.wrap ((k_3:Int) - (a0.reaches.getD (Int.toNat s_2.2.2) (default:Reach)).delay))∧(IntKind.i64.wrap ((k_3:Int) - (a0.reaches.getD (Int.toNat s_2.2.2) (default:Reach)).delay)) < ((s_3.2.getD (Int.toNat ((a0.reaches.getD (Int.toNat s_2.2.2) (default:Reach)).up)) []).length:Int))))))))))))))))))
@[go_sem] def dV (a0:District)(k_2:Nat)(s_2:List (List Int)×List Fault×Int):(List Fault)⊕(List (List Int)×List Fault×Int):=(bif(decide (s_2.2.2≥0))then(match ap (fl a0 s_2) (Int.toNat a0.hours) 0 (s_2.2.1,s_2.1)with| .inl x=>x.elim| .inr s_3=>.inr (s_3.2,s_3.1,(IntKind.i64.wrap (s_2.2.2 - 1))))else .inl s_2.2.1)
def jE (a0:District)(k_2:Nat)(s_2:List (List Int)×List Fault×Int):Prop:=((decide (s_2.2.2≥0))=true→((0≤s_2.2.2∧s_2.2.2< (a0.reaches.length:Int))∧((a0.hours<9223372036854775808)∧okI (fl a0 s_2) (fF a0 s_2) (Int.toNat a0.hours) 0 (s_2.2.1,s_2.1))))
def lF (a0:District)(a1:List Claim):List Fault:=(match ap (cW a0) (a0.reaches.length+1) 0 ((List.replicate a0.reaches.length []),0)with| .inl x_0_0=>(match ap (eC a0 a1) ((az a0 a1).length) 0 x_0_0 with| .inl x=>x.elim| .inr s_1=>(match ap (dV a0) (a0.reaches.length+1) 0 (s_1,[],(IntKind.i64.wrap ((a0.reaches.length:Int) - 1)))with| .inl x_2_0=>x_2_0| .inr s_2=>default)) | .inr s_0=>default)
def nC (a0:District)(a1:List Claim):Prop:=(a0.reaches.length≤a7→(((a0.reaches.length:Int)=(a0.reaches.length:Int)∧0≤(a0.reaches.length:Int)∧(a0.reaches.length:Int)*((24:Nat):Int)≤((dE:Nat):Int))∧((a0.reaches.length:Int)≤((a7:Nat):Int)→(okI (cW a0) (jD a0) (a0.reaches.length+1) 0 ((List.replicate a0.reaches.length []),0)∧(∀ z_,ap (cW a0) (a0.reaches.length+1) 0 ((List.replicate a0.reaches.length []),0)≠ .inr z_)∧(∀ x_0_0,ap (cW a0) (a0.reaches.length+1) 0 ((List.replicate a0.reaches.length []),0)=.inl x_0_0→((eX a0 a1)∧(okI (eC a0 a1) (gV a0 a1) ((az a0 a1).length) 0 x_0_0∧(∀ s_1,ap (eC a0 a1) ((az a0 a1).length) 0 x_0_0=.inr s_1→(a0.reaches.length≤a7→(okI (dV a0) (jE a0) (a0.reaches.length+1) 0 (s_1,[],(IntKind.i64.wrap ((a0.reaches.length:Int) - 1)))∧(∀ z_,ap (dV a0) (a0.reaches.length+1) 0 (s_1,[],(IntKind.i64.wrap ((a0.reaches.length:Int) - 1)))≠ .inr z_)))))))))))
@[go_sem] def vN:List SV→Option Con:=(pD .district fun a0=>(pR .claim fun a1=>(pE (.det (nC a0 a1) (.nw .fault (lF a0 a1))))))
theorem AM:FnOk Tryz.prog 61 vN:=by
 have hG:ConsOk Tryz.prog (mkG [(59,fun l=>jC (cn [.st .district,.sl .claim] l)),(106,so)] []):=aC (cgc (lE.norm [.st .district,.sl .claim]) (cgc xN cg0)) cg0
 refine qf [(.tmp 4,.fault)] mixed ax hG (fn:=Tryz.f61) (c:=aa Tryz.f61) (by kernel_rfl) (by kernel_rfl) (by kernel_rfl) (by kernel_rfl) (aN fun a0=>(cj fun a1=>(aB (fun hp=>?_))))
 dsimp only[aD]at hp
 unfold nC at hp
 refine⟨Nat.le_of_ble_eq_true rfl,(fun id st=>bif Nat.beq id 0 then some (LCV (ρ:=(List (List Int))) (σ:=(List (List Int)×Int)) 2 [] [0,1,1] (fun k_0 s_0=>⟨[(1,.rs .claim a1),(2,.ptr 0 0),(5,.os 2),(6,.v (.int .i64 s_0.2))],[.cells (cellsOf .district a0),.dead,.grid .int s_0.1]⟩) (cW a0) (jD a0) (a0.reaches.length+1) ((List.replicate a0.reaches.length []),0) (fun _=>.normal) (fun x_0_0=>⟨[(1,.rs .claim a1),(2,.ptr 0 0),(5,.os 2)],[.cells (cellsOf .district a0),.dead,.grid .int x_0_0]⟩) st)else bif Nat.beq id 2 then some (LCR (ρ:=Empty) (σ:=(List (List Int))) 4 [] [0,1,2,3] (fun k_1 s_1=>⟨[(2,.ptr 0 0),(5,.os 2),(7,.os 3),(8,.v (.int .i64 (k_1:Int)))],[.cells (cellsOf .district a0),.dead,.grid .int s_1,.row .order (az a0 a1)]⟩) (eC a0 a1) (gV a0 a1) ((az a0 a1).length) (bf (ap (cW a0) (a0.reaches.length+1) 0 ((List.replicate a0.reaches.length []),0))) (True) ((·.elim)) ((·.elim)) st)else bif Nat.beq id 4 then some (LCV (ρ:=(List Fault)) (σ:=(List (List Int)×List Fault×Int)) 4 [.slot 10 (.row .fault ([]))] [0,1,2,3,4] (fun k_2 s_2=>⟨[(2,.ptr 0 0),(5,.os 2),(10,.os 4),(11,.v (.int .i64 s_2.2.2))],[.cells (cellsOf .district a0),.dead,.grid .int s_2.1,.dead,.row .fault s_2.2.1]⟩) (dV a0) (jE a0) (a0.reaches.length+1) ((aX (ap (eC a0 a1) ((az a0 a1).length) 0 (bf (ap (cW a0) (a0.reaches.length+1) 0 ((List.replicate a0.reaches.length []),0))))),[],(IntKind.i64.wrap ((a0.reaches.length:Int) - 1))) (fun _=>.normal) (fun x_2_0=>⟨[(10,.os 4)],[.dead,.dead,.dead,.dead,.row .fault x_2_0]⟩) st)else none),?_,?_⟩
 ·unfold aa Tryz.f61
  simp only[ay,true_and,and_true]
  refine⟨?_,?_,?_⟩
  ·refine ii mixed ax hG (by kernel_rfl) (fun _=>rfl) fun k_0 s_0 hq0=>⟨L0,ak _,?_⟩
   ·unfold jD at hq0
    exact LA
  ·refine dL ((az a0 a1).length≤a7) mixed ax hG (by kernel_rfl) (fun _=>rfl) ((az a0 a1).length:Int) rfl g7 (fun hb1 k_1 s_1 hlt1 hq1 hw hc=>⟨L0,ak _,?_⟩) (fun hb1 s_1 hc=>?_) fun hb1 k_1 s_1=>?_
   ·unfold gV at hq1
    try simp only[hw,Int.toNat_natCast]at hq1
    exact LB
   ·exact LD
   ·simp only[go_sem,Nat.reduceBEq,Nat.reduceLeDiff,Nat.reduceLT,decide_true,Nat.reduceAdd,Nat.reduceSub,Nat.reduceMul,Int.reduceLE,Int.reduceLT,Int.reduceToNat,Int.reduceNeg,reduceCtorEq,hb1]
  ·refine ii mixed ax hG (by kernel_rfl) (fun _=>rfl) fun k_2 s_2 hq2=>⟨(fun id st=>bif Nat.beq id 6 then some (LCR (ρ:=Empty) (σ:=(List Fault×List (List Int))) 6 [] [0,1,2,3,4,5,4] (fun k_3 s_3=>⟨[(2,.ptr 0 0),(5,.os 2),(10,.os 6),(11,.v (.int .i64 s_2.2.2)),(12,.ptr 5 0),(13,.v (.int .i64 (k_3:Int)))],[.cells (cellsOf .district a0),.dead,.grid .int s_3.2,.dead,.dead,.cells (cellsOf .reach (a0.reaches.getD (Int.toNat s_2.2.2) (default:Reach))),.row .fault s_3.1]⟩) (fl a0 s_2) (fF a0 s_2) (Int.toNat a0.hours) (s_2.2.1,s_2.1) (a0.hours<9223372036854775808) ((·.elim)) ((·.elim)) st)else none),?_,?_⟩
   ·simp only[ay,true_and,and_true]
    ·refine dB mixed ax hG (by kernel_rfl) (fun _=>rfl) a0.hours rfl id (fun hb3 k_3 s_3 hlt3 hq3 hw hc=>⟨L0,ak _,?_⟩) (fun hb3 s_3 hc=>?_)
     ·unfold fF at hq3
      try simp only[hw,Int.toNat_natCast]at hq3
      simp only[go_sem,Nat.reduceBEq,Nat.reduceLeDiff,Nat.reduceLT,decide_true,Nat.reduceAdd,Nat.reduceSub,Nat.reduceMul,Int.reduceLE,Int.reduceLT,Int.reduceToNat,Int.reduceNeg,reduceCtorEq,hc,hw]
      all_goals (repeat' (first|with_reducible refine And.intro ?_ ?_|with_reducible intro _))
      all_goals first|((repeat (first|replace hq3:=hq3.1 (by assumption) |replace hq3:=hq3.2 (by assumption) |replace hq3:=hq3 (by assumption) |(obtain⟨_,hq3⟩:=hq3)));first|assumption|omega) |((repeat (first|refine N5 (by assumption) ?_|refine N6 (by assumption) ?_));exact EP)
     ·exact LG
   ·unfold jE at hq2
    exact LF
 ·unfold aa Tryz.f61
  try unfold lF
  simp only[go_sem,Nat.reduceBEq,Nat.reduceLeDiff,Nat.reduceLT,decide_true,Nat.reduceAdd,Nat.reduceSub,Nat.reduceMul,Int.reduceLE,Int.reduceLT,Int.reduceToNat,Int.reduceNeg,reduceCtorEq]
  all_goals exact cl
end Go.Sx
end
section
namespace Go.Sx
open Go.Proofs
set_option maxRecDepth 100000
set_option linter.unusedSimpArgs false
@[go_sem] def dD (l_:List Fault)(k_0:Nat)(s_0:Int×Int×Int×Int×Int):Empty⊕(Int×Int×Int×Int×Int):=(bif((decide ((l_.getD (Int.toNat ((k_0:Int)+1)) (default:Fault)).hour<s_0.2.1)) ||(((l_.getD (Int.toNat ((k_0:Int)+1)) (default:Fault)).hour==s_0.2.1)&&(decide ((l_.getD (Int.toNat ((k_0:Int)+1)) (default:Fault)).index > s_0.2.2.1))))then .inr ((l_.getD (Int.toNat ((k_0:Int)+1)) (default:Fault)).kind,(l_.getD (Int.toNat ((k_0:Int)+1)) (default:Fault)).hour,(l_.getD (Int.toNat ((k_0:Int)+1)) (default:Fault)).index,(l_.getD (Int.toNat ((k_0:Int)+1)) (default:Fault)).litres,(l_.getD (Int.toNat ((k_0:Int)+1)) (default:Fault)).limit)else .inr (s_0.1,s_0.2.1,s_0.2.2.1,s_0.2.2.2.1,s_0.2.2.2.2))
def iM (l_:List Fault)(k_0:Nat)(s_0:Int×Int×Int×Int×Int):Prop:=(l_.length≤a7→((0≤((k_0:Int)+1)∧((k_0:Int)+1) < (l_.length:Int))∧(((decide ((l_.getD (Int.toNat ((k_0:Int)+1)) (default:Fault)).hour<s_0.2.1))=false→(0≤((k_0:Int)+1)∧((k_0:Int)+1) < (l_.length:Int)))∧(((decide ((l_.getD (Int.toNat ((k_0:Int)+1)) (default:Fault)).hour<s_0.2.1))=false→(((l_.getD (Int.toNat ((k_0:Int)+1)) (default:Fault)).hour==s_0.2.1)=true→(0≤((k_0:Int)+1)∧((k_0:Int)+1) < (l_.length:Int))))∧(((decide ((l_.getD (Int.toNat ((k_0:Int)+1)) (default:Fault)).hour<s_0.2.1)) ||(((l_.getD (Int.toNat ((k_0:Int)+1)) (default:Fault)).hour==s_0.2.1)&&(decide ((l_.getD (Int.toNat ((k_0:Int)+1)) (default:Fault)).index > s_0.2.2.1))))=true→(0≤((k_0:Int)+1)∧((k_0:Int)+1) < (l_.length:Int)))))))
def mF (l_:List Fault):Fault:=(match ap (dD l_) (l_.length - 1) 0 ((l_.getD 0 (default:Fault)).kind,(l_.getD 0 (default:Fault)).hour,(l_.getD 0 (default:Fault)).index,(l_.getD 0 (default:Fault)).litres,(l_.getD 0 (default:Fault)).limit)with| .inl x=>x.elim| .inr s_0=>({ kind:=s_0.1,hour:=s_0.2.1,index:=s_0.2.2.1,litres:=s_0.2.2.2.1,limit:=s_0.2.2.2.2}:Fault))
def l9 (l_:List Fault):Prop:=((0≤0∧0< (l_.length:Int))∧okI (dD l_) (iM l_) (l_.length - 1) 0 ((l_.getD 0 (default:Fault)).kind,(l_.getD 0 (default:Fault)).hour,(l_.getD 0 (default:Fault)).index,(l_.getD 0 (default:Fault)).litres,(l_.getD 0 (default:Fault)).limit))
@[go_sem] def tI:List SV→Option Con:=(pR .fault fun l_=>(pE (.det (l9 l_) (.agg (cellsOf .fault (mF l_))))))
theorem Af:FnOk Tryz.prog 60 tI:=by
 have hG:ConsOk Tryz.prog (mkG [] []):=aC cg0 cg0
 refine aI [.st .fault] mixed ax hG (fn:=Tryz.f60) (c:=aa Tryz.f60) (by kernel_rfl) (by kernel_rfl) (by kernel_rfl) (by kernel_rfl) (cj fun l_=>(aB (fun hp=>?_)))
 dsimp only[aD]at hp
 unfold l9 at hp
 refine⟨Nat.le_of_ble_eq_true rfl,(fun id st=>bif Nat.beq id 0 then some (LC (ρ:=Empty) (σ:=Int×Int×Int×Int×Int) (lk 0 st.t=.rs .fault l_∧lk 2 st.t=.ptr 0 0∧lk 3 st.t=.ptr 1 0∧lk 4 st.t=.v (.int .i64 1)∧st.h=[.cells [.v (.int .i64 0),.v (.int .i64 0),.v (.int .i64 0),.v (.int .i64 0),.v (.int .i64 0)],.cells (cellsOf .fault (l_.getD 0 (default:Fault)))]∧okI (dD l_) (iM l_) (l_.length - 1) 0 ((l_.getD 0 (default:Fault)).kind,(l_.getD 0 (default:Fault)).hour,(l_.getD 0 (default:Fault)).index,(l_.getD 0 (default:Fault)).litres,(l_.getD 0 (default:Fault)).limit)) (ap (dD l_) (l_.length - 1) 0 ((l_.getD 0 (default:Fault)).kind,(l_.getD 0 (default:Fault)).hour,(l_.getD 0 (default:Fault)).index,(l_.getD 0 (default:Fault)).litres,(l_.getD 0 (default:Fault)).limit)) (fun x=>x.elim) (fun x=>x.elim) (fun s_0=>⟨[(2,.ptr 0 0),(3,.ptr 1 0)],[.cells [.v (.int .i64 0),.v (.int .i64 0),.v (.int .i64 0),.v (.int .i64 0),.v (.int .i64 0)],.cells [.v (.int .i64 s_0.1),.v (.int .i64 s_0.2.1),.v (.int .i64 s_0.2.2.1),.v (.int .i64 s_0.2.2.2.1),.v (.int .i64 s_0.2.2.2.2)]]⟩))else none),?_,?_⟩
 ·unfold aa Tryz.f60
  simp only[ay,true_and,and_true]
  ·refine we mixed ax hG (by kernel_rfl) fun st lc hC hp=>?_
   simp only[go_sem,Nat.reduceBEq,Option.some.injEq]at hC
   subst hC
   obtain⟨t,h⟩:=st
   dsimp only[LC]at hp
   obtain⟨e0_0,e0_1,e0_2,e0_3,rfl,hok0⟩:=hp
   refine⟨_,_,_,(dD l_),(iM l_),(l_.length - 1),((l_.getD 0 (default:Fault)).kind,(l_.getD 0 (default:Fault)).hour,(l_.getD 0 (default:Fault)).index,(l_.getD 0 (default:Fault)).litres,(l_.getD 0 (default:Fault)).limit),_,_,_,(fun k_0 s_0=>⟨[(0,.rs .fault l_),(2,.ptr 0 0),(3,.ptr 1 0),(4,.v (.int .i64 ((k_0:Int)+1)))],[.cells [.v (.int .i64 0),.v (.int .i64 0),.v (.int .i64 0),.v (.int .i64 0),.v (.int .i64 0)],.cells [.v (.int .i64 s_0.1),.v (.int .i64 s_0.2.1),.v (.int .i64 s_0.2.2.1),.v (.int .i64 s_0.2.2.2.1),.v (.int .i64 s_0.2.2.2.2)]]⟩),[0,1],rfl,hok0,Nat.le_refl _,?_,fun k_0 s_0 hk0 hp0=>?_⟩
   ·simp only[go_sem,Nat.reduceBEq,Nat.reduceLeDiff,Nat.reduceLT,decide_true,Nat.reduceAdd,Nat.reduceSub,Nat.reduceMul,Int.reduceLE,Int.reduceLT,Int.reduceToNat,Int.reduceNeg,reduceCtorEq,e0_0,e0_1,e0_2,e0_3]
    all_goals (first|done|decide|(repeat' (first|refine And.intro ?_ ?_|rfl|decide)))
   refine⟨L0,?_,?_⟩
   ·simp only[ay,and_self,true_and,and_true]
   ·by_cases hb0:l_.length≤a7
    rotate_left
    ·simp only[go_sem,Nat.reduceBEq,Nat.reduceLeDiff,Nat.reduceLT,decide_true,Nat.reduceAdd,Nat.reduceSub,Nat.reduceMul,Int.reduceLE,Int.reduceLT,Int.reduceToNat,Int.reduceNeg,reduceCtorEq,hb0]
    ·by_cases hlt0:k_0< (l_.length - 1)
     ·have hw0:IntKind.i64.wrap (((k_0:Nat):Int)+1+1)=((k_0+1:Nat):Int)+1:=by(have hbb:=hb0;have hll:=hlt0;try unfold a7 at hbb);rw[bv (by omega) (by omega)];omega
      have hq0:=hp0 hlt0
      unfold iM at hq0
      replace hq0:=hq0 hb0
      try simp only[hw0,Int.toNat_natCast]at hq0
      have hc0:decide (((k_0:Int)+1) < (l_.length:Int))=true:=by simp only[decide_eq_true_eq];omega
      simp only[go_sem,Nat.reduceBEq,Nat.reduceLeDiff,Nat.reduceLT,decide_true,Nat.reduceAdd,Nat.reduceSub,Nat.reduceMul,Int.reduceLE,Int.reduceLT,Int.reduceToNat,Int.reduceNeg,reduceCtorEq,dD,hc0,hw0]
      all_goals exact cl
     ·have hc0:decide (((k_0:Int)+1) < (l_.length:Int))=false:=by simp only[decide_eq_false_iff_not];omega
      simp only[go_sem,Nat.reduceBEq,Nat.reduceLeDiff,Nat.reduceLT,decide_true,Nat.reduceAdd,Nat.reduceSub,Nat.reduceMul,Int.reduceLE,Int.reduceLT,Int.reduceToNat,Int.reduceNeg,reduceCtorEq,hc0]
      all_goals exact cl2
 ·unfold aa Tryz.f60
  try unfold mF
  simp only[go_sem,Nat.reduceBEq,Nat.reduceLeDiff,Nat.reduceLT,decide_true,Nat.reduceAdd,Nat.reduceSub,Nat.reduceMul,Int.reduceLE,Int.reduceLT,Int.reduceToNat,Int.reduceNeg,reduceCtorEq]
  all_goals exact cl
end Go.Sx
end
section
namespace Go.Sx
open Go.Proofs
set_option maxRecDepth 100000
set_option linter.unusedSimpArgs false
@[go_sem] def kO (l_:List Order)(reach:Int)(fr:Int)(to:Int)(k_0:Nat)(s_0:Int):Empty⊕Int:=(bif((((!(l_.getD k_0 (default:Order)).outlet)&&((l_.getD k_0 (default:Order)).index==reach))&&(decide ((l_.getD k_0 (default:Order)).hour≥fr)))&&(decide ((l_.getD k_0 (default:Order)).hour≤to)))then .inr (IntKind.i64.wrap (s_0+(l_.getD k_0 (default:Order)).litres))else .inr s_0)
def eM (l_:List Order)(reach:Int)(fr:Int)(to:Int):Int:=(match ap (kO l_ reach fr to) l_.length 0 0 with| .inl x=>x.elim| .inr s_0=>s_0)
@[go_sem] def tJ:List SV→Option Con:=(pR .order fun l_=>(pI fun reach=>(pI fun fr=>(pI fun to=>(pE (.det True (.v (.int .i64 (eM l_ reach fr to)))))))))
theorem Ag:FnOk Tryz.prog 107 tJ:=by
 have hG:ConsOk Tryz.prog (mkG [] []):=aC cg0 cg0
 refine aI [.o] mixed ax hG (fn:=Tryz.f107) (c:=aa Tryz.f107) (by kernel_rfl) (by kernel_rfl) (by kernel_rfl) (by kernel_rfl) (cj fun l_=>(b_ fun reach=>(b_ fun fr=>(b_ fun to=>(aB (fun hp=>?_))))))
 dsimp only[aD]at hp
 refine⟨Nat.le_of_ble_eq_true rfl,(fun id st=>bif Nat.beq id 0 then some (LCR (ρ:=Empty) (σ:=Int) 0 [] [] (fun k_0 s_0=>⟨[(0,.rs .order l_),(1,.v (.int .i64 reach)),(2,.v (.int .i64 fr)),(3,.v (.int .i64 to)),(9,.v (.int .i64 s_0)),(10,.v (.int .i64 (k_0:Int)))],[]⟩) (kO l_ reach fr to) pT l_.length 0 (True) ((·.elim)) ((·.elim)) st)else none),?_,?_⟩
 ·unfold aa Tryz.f107
  simp only[ay,true_and,and_true]
  ·refine dL (l_.length≤a7) mixed ax hG (by kernel_rfl) (fun _=>rfl) (l_.length:Int) rfl g7 (fun hb0 k_0 s_0 hlt0 _ hw hc=>⟨L0,ak _,?_⟩) (fun hb0 s_0 hc=>?_) fun hb0 k_0 s_0=>?_
   ·exact mt
   ·exact mu
   ·simp only[go_sem,Nat.reduceBEq,Nat.reduceLeDiff,Nat.reduceLT,decide_true,Nat.reduceAdd,Nat.reduceSub,Nat.reduceMul,Int.reduceLE,Int.reduceLT,Int.reduceToNat,Int.reduceNeg,reduceCtorEq,hb0]
 ·unfold aa Tryz.f107
  try unfold eM
  simp only[go_sem,Nat.reduceBEq,Nat.reduceLeDiff,Nat.reduceLT,decide_true,Nat.reduceAdd,Nat.reduceSub,Nat.reduceMul,Int.reduceLE,Int.reduceLT,Int.reduceToNat,Int.reduceNeg,reduceCtorEq]
  all_goals exact cl
@[go_sem] def gW (a0:District)(a1:List Order)(k_0:Nat)(k_1:Nat)(s_1:Unit):(Int×Int×Int×Int)⊕Unit:=(bif(decide ((eM a1 (k_1:Int) (k_0:Int) (k_0:Int)) > (a0.reaches.getD k_1 (default:Reach)).cap))then .inl (1,(k_1:Int),(eM a1 (k_1:Int) (k_0:Int) (k_0:Int)),(a0.reaches.getD k_1 (default:Reach)).cap)else(bif(decide ((eM a1 (k_1:Int) (IntKind.i64.wrap ((IntKind.i64.wrap ((k_0:Int) - (a0.reaches.getD k_1 (default:Reach)).delay))+1)) (k_0:Int)) > (a0.reaches.getD k_1 (default:Reach)).bank))then .inl (3,(k_1:Int),(eM a1 (k_1:Int) (IntKind.i64.wrap ((IntKind.i64.wrap ((k_0:Int) - (a0.reaches.getD k_1 (default:Reach)).delay))+1)) (k_0:Int)),(a0.reaches.getD k_1 (default:Reach)).bank)else .inr ()))
@[go_sem] def gX (a0:District)(a1:List Order)(k_0:Nat)(s_0:Unit):(Int×Int×Int×Int×Int)⊕Unit:=(match ap (gW a0 a1 k_0) a0.reaches.length 0 ()with| .inl x_1_0=>.inl (x_1_0.1,(k_0:Int),x_1_0.2.1,x_1_0.2.2.1,x_1_0.2.2.2) | .inr s_1=>.inr ())
def gM (a0:District)(a1:List Order):Fault×Bool:=(match ap (gX a0 a1) (Int.toNat a0.hours) 0 ()with| .inl x_0_0=>(({ kind:=x_0_0.1,hour:=x_0_0.2.1,index:=x_0_0.2.2.1,litres:=x_0_0.2.2.2.1,limit:=x_0_0.2.2.2.2}:Fault),true) | .inr s_0=>(bif(decide ((eM a1 0 0 a0.hours) > a0.tank.start))then(({ kind:=4,hour:=0,index:=0,litres:=(eM a1 0 0 a0.hours),limit:=a0.tank.start}:Fault),true)else(({ kind:=0,hour:=0,index:=0,litres:=0,limit:=0}:Fault),false)))
def ix (a0:District)(a1:List Order):Prop:=(a0.hours<9223372036854775808)
@[go_sem] def sp:List SV→Option Con:=(pD .district fun a0=>(pR .order fun a1=>(pE (.det (ix a0 a1) (.tup [.agg (cellsOf .fault ((gM a0 a1).1)),.v (.bool ((gM a0 a1).2))])))))
theorem xO:FnOk Tryz.prog 62 sp:=by
 have hG:ConsOk Tryz.prog (mkG [(107,fun l=>tJ (cn [.sl .order,.o,.o,.o] l))] []):=aC (cgc (Ag.norm [.sl .order,.o,.o,.o]) cg0) cg0
 refine aI [.st .fault,.o] mixed ax hG (fn:=Tryz.f62) (c:=aa Tryz.f62) (by kernel_rfl) (by kernel_rfl) (by kernel_rfl) (by kernel_rfl) (aN fun a0=>(cj fun a1=>(aB (fun hp=>?_))))
 dsimp only[aD]at hp
 unfold ix at hp
 refine⟨Nat.le_of_ble_eq_true rfl,(fun id st=>bif Nat.beq id 0 then some (LCR (ρ:=(Int×Int×Int×Int×Int)) (σ:=Unit) 2 [] [0,1] (fun k_0 s_0=>⟨[(1,.rs .order a1),(2,.ptr 0 0),(4,.ptr 1 0),(6,.v (.int .i64 (k_0:Int)))],[.cells (cellsOf .district a0),.cells [.v (.int .i64 0),.v (.int .i64 0),.v (.int .i64 0),.v (.int .i64 0),.v (.int .i64 0)]]⟩) (gX a0 a1) pT (Int.toNat a0.hours) () (a0.hours<9223372036854775808) (fun _=>.ret) (fun x_0_0=>⟨[(4,.ptr 1 0),(5,.v (.bool true))],[.dead,.cells [.v (.int .i64 x_0_0.1),.v (.int .i64 x_0_0.2.1),.v (.int .i64 x_0_0.2.2.1),.v (.int .i64 x_0_0.2.2.2.1),.v (.int .i64 x_0_0.2.2.2.2)]]⟩) st)else none),?_,?_⟩
 ·unfold aa Tryz.f62
  simp only[ay,true_and,and_true]
  ·refine dB mixed ax hG (by kernel_rfl) (fun _=>rfl) a0.hours rfl id (fun hb0 k_0 s_0 hlt0 _ hw hc=>⟨(fun id st=>bif Nat.beq id 2 then some (LCR (ρ:=(Int×Int×Int×Int)) (σ:=Unit) 2 [] [0,1] (fun k_1 s_1=>⟨[(1,.rs .order a1),(2,.ptr 0 0),(4,.ptr 1 0),(6,.v (.int .i64 (k_0:Int))),(7,.v (.int .i64 (k_1:Int)))],[.cells (cellsOf .district a0),.cells [.v (.int .i64 0),.v (.int .i64 0),.v (.int .i64 0),.v (.int .i64 0),.v (.int .i64 0)]]⟩) (gW a0 a1 k_0) pT a0.reaches.length () (True) (fun _=>.ret) (fun x_1_0=>⟨[(4,.ptr 1 0),(5,.v (.bool true))],[.dead,.cells [.v (.int .i64 x_1_0.1),.v (.int .i64 (k_0:Int)),.v (.int .i64 x_1_0.2.1),.v (.int .i64 x_1_0.2.2.1),.v (.int .i64 x_1_0.2.2.2)]]⟩) st)else none),?_,?_⟩) (fun hb0 s_0 hc=>?_)
   ·simp only[ay,true_and,and_true]
    ·refine dL (a0.reaches.length≤a7) mixed ax hG (by kernel_rfl) (fun _=>rfl) (a0.reaches.length:Int) rfl g7 (fun hb1 k_1 s_1 hlt1 _ hw hc=>⟨L0,ak _,?_⟩) (fun hb1 s_1 hc=>?_) fun hb1 k_1 s_1=>?_
     ·exact vE
     ·exact vF
     ·simp only[go_sem,Nat.reduceBEq,Nat.reduceLeDiff,Nat.reduceLT,decide_true,Nat.reduceAdd,Nat.reduceSub,Nat.reduceMul,Int.reduceLE,Int.reduceLT,Int.reduceToNat,Int.reduceNeg,reduceCtorEq,hb1]
   ·exact vE
   ·exact vF
 ·unfold aa Tryz.f62
  try unfold gM
  simp only[go_sem,Nat.reduceBEq,Nat.reduceLeDiff,Nat.reduceLT,decide_true,Nat.reduceAdd,Nat.reduceSub,Nat.reduceMul,Int.reduceLE,Int.reduceLT,Int.reduceToNat,Int.reduceNeg,reduceCtorEq]
  all_goals exact cl
end Go.Sx
end
section
namespace Go.Sx
open Go.Proofs
set_option maxRecDepth 100000
set_option linter.unusedSimpArgs false
def ed (d:District)(c:List Claim):List Order×Fault×Bool×Int:=(bif((dR d c) !=0)then([],({ kind:=0,hour:=0,index:=0,litres:=0,limit:=0}:Fault),false,(dR d c))else(bif((cy d (az d c)).2.2 !=0)then([],({ kind:=0,hour:=0,index:=0,litres:=0,limit:=0}:Fault),false,(cy d (az d c)).2.2)else(bif(!(cy d (az d c)).2.1)then([],(mF (lF d c)),true,0)else(bif(gM d ((cy d (az d c)).1)).2 then([],((gM d ((cy d (az d c)).1)).1),true,0)else((cy d (az d c)).1,({ kind:=0,hour:=0,index:=0,litres:=0,limit:=0}:Fault),false,0)))))
def jp (d:District)(c:List Claim):Prop:=((jo d c)∧(((dR d c) !=0)=false→((eX d c)∧((nz d (az d c))∧(((cy d (az d c)).2.2 !=0)=false→(((!(cy d (az d c)).2.1)=true→((nC d c)∧(l9 (lF d c))))∧((!(cy d (az d c)).2.1)=false→(ix d ((cy d (az d c)).1)))))))))
def iy (d:District)(c:List Claim):List Order×Bool×Int:=(bif(((ed d c).2.2.2 !=0) ||(ed d c).2.2.1)then([],false,(ed d c).2.2.2)else((ed d c).1,true,0))
def nD (d:District)(c:List Claim):Prop:=(jp d c)
end Go.Sx
end
section
namespace Go.Sx
open Go.Proofs Go.Shelf Go.Sort Go.Lib
set_option maxRecDepth 100000
theorem Gx (l:UM)(x z:TimetableSlot)(y:Bool):aK .timetableSlot .bool (c7 .timetableSlot .bool l x y) z=if z=x then y else aK .timetableSlot .bool l z:=by
 unfold aK c7
 rw[Bm]
 by_cases h:z=x <;>simp[h]
theorem EQ {i:Int}{x:Reach}(h:aU i x=true){w:Int}(hw:1≤w):(bG x w).2=(am x w).2∧((am x w).2=true→(bG x w).1=(am x w).1)∧kM x w:=by
 refine⟨?_,?_,fun _=>EL h w⟩
 all_goals
  unfold bG am
  have e0:(w==0)=false:=by rw[beq_eq_false_iff_ne];omega
  rw[e0]
  simp only[Bool.false_or]
  by_cases h1:w > 1073741824
  ·rw[decide_eq_true h1];simp
  ·rw[decide_eq_false h1]
   simp only[cond_false]
   rcases BE h (w:=w) (by omega) (by omega)with⟨v,e1,e2⟩ | ⟨e1,e2⟩
   ·rw[e1,e2];simp
   ·rw[e1,e2];simp
section
variable {d:District}{s1:List Fault×WM×UM×Int}{k r:Nat}{u:UM}{F:List Fault}{w:WM}
theorem Gy (hu:aK .timetableSlot .bool u (sl s1.2.2.2 k)=true):aA d s1 k (u,F,w)=.inr (c7 .timetableSlot .bool u (sl (rch d s1.2.2.2).up (IntKind.i64.wrap ((k:Int) - (rch d s1.2.2.2).delay))) true,F,w):=by
 unfold aA
 unfold sl at hu ⊢
 simp only[hu,cond_true]
theorem IT (hu:aK .timetableSlot .bool u (sl s1.2.2.2 k)=false)(hn:aK .timetableSlot .int w (sl s1.2.2.2 k)≠0)
  (hb:(am (rch d s1.2.2.2) (aK .timetableSlot .int w (sl s1.2.2.2 k))).2=false∨(k:Int) < (rch d s1.2.2.2).delay):
  aA d s1 k (u,F,w)=.inr (c7 .timetableSlot .bool u (sl (rch d s1.2.2.2).up (IntKind.i64.wrap ((k:Int) - (rch d s1.2.2.2).delay))) (aK .timetableSlot .bool u (sl (rch d s1.2.2.2).up (IntKind.i64.wrap ((k:Int) - (rch d s1.2.2.2).delay))) || !(am (rch d s1.2.2.2) (aK .timetableSlot .int w (sl s1.2.2.2 k))).2),F++[ltF k s1.2.2.2 (aK .timetableSlot .int w (sl s1.2.2.2 k))],w):=by
 unfold aA ltF
 unfold sl at hu hn hb ⊢
 simp only[hu,cond_false]
 generalize hq:aK .timetableSlot .int w ({ index:=s1.2.2.2,hour:=(k:Int)}:TimetableSlot)=n at hn hb ⊢
 have h0:(n==0)=false:=by simpa using hn
 rw[h0,cond_false]
 by_cases hm:n≤1073741824
 ·have hri:(am (rch d s1.2.2.2) n).2=(bw (d.reaches.getD (Int.toNat s1.2.2.2) (default:Reach)) n).2.1:=by
   unfold am
   have h1:((n==0) ||decide (n > 1073741824))=false:=by rw[h0,Bool.false_or,decide_eq_false_iff_not];exact Int.not_lt.2 hm
   rw[h1,cond_false]
   cases hN:(bw (d.reaches.getD (Int.toNat s1.2.2.2) (default:Reach)) n).2.1 with
   |false=>rfl
   |true=>rfl
  rw[hri]at hb ⊢
  rw[decide_eq_true hm,cond_true]
  have h2:((!(bw (d.reaches.getD (Int.toNat s1.2.2.2) (default:Reach)) n).2.1) ||(decide ((k:Int) < (d.reaches.getD (Int.toNat s1.2.2.2) (default:Reach)).delay)))=true:=by
   rcases hb with hb|hb
   ·rw[hb];rfl
   ·rw[decide_eq_true hb,Bool.or_true]
  rw[h2,cond_true]
 ·have hri:(am (rch d s1.2.2.2) n).2=false:=by
   unfold am
   have h1:((n==0) ||decide (n > 1073741824))=true:=by rw[h0,Bool.false_or,decide_eq_true_eq];exact Int.not_le.1 hm
   rw[h1,cond_true]
   exact h0
  rw[hri]
  rw[decide_eq_false hm,cond_false]
  rw[Bool.not_false,Bool.true_or,cond_true]
def wv (w:WM)(a b:Int):Int:=aK .timetableSlot .int w (sl a b)
def uv (u:UM)(a b:Int):Bool:=aK .timetableSlot .bool u (sl a b)
theorem CS {a b x y:Int}:sl x y=sl a b↔x=a∧y=b:=by
 unfold sl
 simp only[TimetableSlot.mk.injEq]
theorem qn (w:WM)(p q v a b:Int):wv (c7 .timetableSlot .int w (sl p q) v) a b=if a=p∧b=q then v else wv w a b:=by
 unfold wv
 rw[ik]
 by_cases h:a=p∧b=q
 ·rw[if_pos h,if_pos (CS.2 h)]
 ·rw[if_neg h,if_neg (fun e=>h (CS.1 e))]
theorem LH (u:UM)(p q:Int)(v:Bool)(a b:Int):uv (c7 .timetableSlot .bool u (sl p q) v) a b=if a=p∧b=q then v else uv u a b:=by
 unfold uv
 rw[Gx]
 by_cases h:a=p∧b=q
 ·rw[if_pos h,if_pos (CS.2 h)]
 ·rw[if_neg h,if_neg (fun e=>h (CS.1 e))]
theorem Q9 (hs:s1.2.2.2=(r:Int))(hw:IntKind.i64.wrap ((k:Int) - (rch d r).delay)=(k:Int) - (rch d r).delay)(hu:uv u r k=true):aA d s1 k (u,F,w)=.inr (c7 .timetableSlot .bool u (sl (rch d r).up ((k:Int) - (rch d r).delay)) true,F,w):=by
 have e:=Gy (d:=d) (s1:=s1) (F:=F) (w:=w) (u:=u) (k:=k) (by rw[hs];exact hu)
 rw[hs,hw]at e;exact e
theorem Q_ (hs:s1.2.2.2=(r:Int))(hu:uv u r k=false)(hn:wv w r k=0):aA d s1 k (u,F,w)=.inr (u,F,w):=
 wz (by rw[hs];exact hu) (by rw[hs];exact hn)
theorem Vc (hs:s1.2.2.2=(r:Int))(hw:IntKind.i64.wrap ((k:Int) - (rch d r).delay)=(k:Int) - (rch d r).delay)(hu:uv u r k=false)(hn:wv w r k≠0)(hb:(am (rch d r) (wv w r k)).2=false∨(k:Int) < (rch d r).delay):
  aA d s1 k (u,F,w)=.inr (c7 .timetableSlot .bool u (sl (rch d r).up ((k:Int) - (rch d r).delay)) (uv u (rch d r).up ((k:Int) - (rch d r).delay) || !(am (rch d r) (wv w r k)).2),F++[ltF k r (wv w r k)],w):=by
 have e:=IT (d:=d) (s1:=s1) (F:=F) (w:=w) (u:=u) (k:=k) (by rw[hs];exact hu) (by rw[hs];exact hn) (by rw[hs];exact hb)
 rw[hs,hw]at e;exact e
theorem Ra (hs:s1.2.2.2=(r:Int))(hw:IntKind.i64.wrap ((k:Int) - (rch d r).delay)=(k:Int) - (rch d r).delay)(hu:uv u r k=false)(hn:wv w r k≠0)(hb:(am (rch d r) (wv w r k)).2=true)(hk:¬ (k:Int) < (rch d r).delay):
  aA d s1 k (u,F,w)=.inr (u,F,c7 .timetableSlot .int w (sl (rch d r).up ((k:Int) - (rch d r).delay)) (IntKind.i64.wrap (wv w (rch d r).up ((k:Int) - (rch d r).delay)+(am (rch d r) (wv w r k)).1))):=by
 have e:=wA (d:=d) (s1:=s1) (F:=F) (w:=w) (u:=u) (k:=k) (by rw[hs];exact hu) (by rw[hs];exact hn) (by rw[hs];exact hb) (by rw[hs];exact hk)
 rw[hs,hw]at e;exact e
structure TB (d:District)(g:List (List Int))(u:UM)(w:WM)(B:Int):Prop where
 len:g.length=d.reaches.length
 row:∀ a:Nat,a<d.reaches.length→(g.getD a []).length=d.hours.toNat
 cel:∀ a b:Nat,a<d.reaches.length→b<d.hours.toNat→cell g a b=if uv u a b=true then -1 else wv w a b
 lo:∀ a b:Int,0≤wv w a b
 hi:∀ a b:Int,wv w a b≤B
variable {g:List (List Int)}{B:Int}
theorem TB.far (E:TB d g u w B){p q:Int}(h:p<0∨q<0)(b:Bool):TB d g (c7 .timetableSlot .bool u (sl p q) b) w B:=
 ⟨E.len,E.row,fun a c h1 h2=>(by rw[E.cel a c h1 h2,LH,if_neg (show ¬ ((a:Int)=p∧(c:Int)=q) by omega)]),E.lo,E.hi⟩
theorem TB.farW (E:TB d g u w B){p q:Int}(h:p<0∨q<0){v:Int}(v0:0≤v){B':Int}(v1:v≤B')(hB:B≤B'):TB d g u (c7 .timetableSlot .int w (sl p q) v) B':=
 ⟨E.len,E.row,fun a c h1 h2=>(by rw[E.cel a c h1 h2,qn,if_neg (show ¬ ((a:Int)=p∧(c:Int)=q) by omega)]),
  fun a c=>(by rw[qn];have:=E.lo a c;split <;>omega),fun a c=>(by rw[qn];have:=E.hi a c;split <;>omega)⟩
theorem BJ (h1:g.length=d.reaches.length)(h2:∀ a:Nat,a<d.reaches.length→(g.getD a []).length=d.hours.toNat){p q:Nat}(hp:p<d.reaches.length)(hq:q<d.hours.toNat)(v:Int)(a b:Nat):
  cell (g.set p ((g.getD p []).set q v)) a b=if a=p∧b=q then v else cell g a b:=by
 unfold cell
 rw[iK _ _ _ _ _ (by rw[h1];exact hp)]
 by_cases e:a=p
 ·rw[if_pos e,iK _ _ _ _ _ (by rw[h2 p hp];exact hq)]
  by_cases e2:b=q
  ·rw[if_pos e2,if_pos ⟨e,e2⟩]
  ·rw[if_neg e2,if_neg (fun h=>e2 h.2),e]
 ·rw[if_neg e,if_neg (fun h=>e h.1)]
theorem ER (h1:g.length=d.reaches.length)(h2:∀ a:Nat,a<d.reaches.length→(g.getD a []).length=d.hours.toNat){p q:Nat}(hp:p<d.reaches.length)(v:Int)(a:Nat)(ha:a<d.reaches.length):
  ((g.set p ((g.getD p []).set q v)).getD a []).length=d.hours.toNat:=by
 rw[iK _ _ _ _ _ (by rw[h1];exact hp)]
 split
 ·rw[List.length_set];exact h2 p hp
 ·exact h2 a ha
theorem TB.bad (E:TB d g u w B){p q:Nat}(hp:p<d.reaches.length)(hq:q<d.hours.toNat):TB d (g.set p ((g.getD p []).set q (-1))) (c7 .timetableSlot .bool u (sl p q) true) w B:=by
 refine⟨by rw[List.length_set];exact E.len,fun a ha=>ER (q:=q) E.len E.row hp _ a ha,fun a b ha hb=>?_,E.lo,E.hi⟩
 rw[BJ E.len E.row hp hq,LH]
 by_cases e:a=p∧b=q
 ·rw[if_pos e,if_pos (show(a:Int)=p∧(b:Int)=q by omega),if_pos rfl]
 ·rw[if_neg e,if_neg (show ¬ ((a:Int)=p∧(b:Int)=q) by omega)]
  exact E.cel a b ha hb
theorem TB.mono (E:TB d g u w B){B':Int}(h:B≤B'):TB d g u w B':=⟨E.len,E.row,E.cel,E.lo,fun a b=>Int.le_trans (E.hi a b) h⟩
theorem TB.good (E:TB d g u w B){p q:Nat}(hp:p<d.reaches.length)(hq:q<d.hours.toNat){n B':Int}(n0:0≤n)(hB:B+n≤B')(hx:cell g p q≥0):
  TB d (g.set p ((g.getD p []).set q (cell g p q+n))) u (c7 .timetableSlot .int w (sl p q) (wv w p q+n)) B':=by
 have hc:=E.cel p q hp hq
 have l0:=E.lo p q
 have l1:=E.hi p q
 refine⟨by rw[List.length_set];exact E.len,fun a ha=>ER (q:=q) E.len E.row hp _ a ha,fun a b ha hb=>?_,fun a b=>?_,fun a b=>?_⟩
 ·rw[BJ E.len E.row hp hq,qn]
  by_cases e:a=p∧b=q
  ·obtain⟨rfl,rfl⟩:=e
   rw[if_pos (show a=a∧b=b from⟨rfl,rfl⟩),if_pos (show(a:Int)=a∧(b:Int)=b from⟨rfl,rfl⟩)]
   by_cases hu:uv u a b=true
   ·rw[if_pos hu]at hc;omega
   ·rw[if_neg hu]at hc ⊢;rw[hc]
  ·rw[if_neg e,if_neg (show ¬ ((a:Int)=p∧(b:Int)=q) by omega)]
   exact E.cel a b ha hb
 ·rw[qn];have:=E.lo a b;split <;>omega
 ·rw[qn];have:=E.hi a b;split <;>omega
theorem TB.hid (E:TB d g u w B){p q:Nat}(hp:p<d.reaches.length)(hq:q<d.hours.toNat){n B':Int}(n0:0≤n)(hB:B+n≤B')(hx:¬cell g p q≥0):
  TB d g u (c7 .timetableSlot .int w (sl p q) (wv w p q+n)) B':=by
 have hc:=E.cel p q hp hq
 have l0:=E.lo p q
 have l1:=E.hi p q
 refine⟨E.len,E.row,fun a b ha hb=>?_,fun a b=>?_,fun a b=>?_⟩
 ·rw[qn]
  by_cases e:a=p∧b=q
  ·obtain⟨rfl,rfl⟩:=e
   rw[if_pos (show(a:Int)=a∧(b:Int)=b from⟨rfl,rfl⟩)]
   by_cases hu:uv u a b=true
   ·rw[if_pos hu]at hc ⊢;exact hc
   ·rw[if_neg hu]at hc;omega
  ·rw[if_neg (show ¬ ((a:Int)=p∧(b:Int)=q) by omega)]
   exact E.cel a b ha hb
 ·rw[qn];have:=E.lo a b;split <;>omega
 ·rw[qn];have:=E.hi a b;split <;>omega
def qJ (d:District)(r k:Nat)(g:List (List Int))(F:List Fault)(ok:Bool)(n:Int):Empty⊕(List Fault×List (List Int)):=
 bif(((r:Int) ==0) ||(decide ((k:Int) < (rch d r).delay)))then .inr (F,g)
 else bif(!ok)then .inr (F,g.set (rch d r).up.toNat ((g.getD (rch d r).up.toNat []).set (IntKind.i64.wrap ((k:Int) - (rch d r).delay)).toNat (-1)))
 else bif decide (cell g (rch d r).up.toNat (IntKind.i64.wrap ((k:Int) - (rch d r).delay)).toNat≥0)then .inr (F,g.set (rch d r).up.toNat ((g.getD (rch d r).up.toNat []).set (IntKind.i64.wrap ((k:Int) - (rch d r).delay)).toNat (IntKind.i64.wrap (cell g (rch d r).up.toNat (IntKind.i64.wrap ((k:Int) - (rch d r).delay)).toNat+n))))
 else .inr (F,g)
variable {s2:List (List Int)×List Fault×Int}
theorem N7 (hs:s2.2.2=(r:Int)):fl d s2 k (F,g)=
  (bif(cell g r k==0)then .inr (F,g)else
   bif decide (cell g r k > 0)then
   (bif((!(bG (rch d r) (cell g r k)).2) ||(decide ((k:Int) < (rch d r).delay)))then qJ d r k g (F++[ltF k r (cell g r k)]) (bG (rch d r) (cell g r k)).2 (bG (rch d r) (cell g r k)).1
    else qJ d r k g F (bG (rch d r) (cell g r k)).2 (bG (rch d r) (cell g r k)).1)
   else qJ d r k g F (decide (cell g r k > 0)) 0):=by
 unfold fl qJ ltF cell
 rw[hs]
 rfl
theorem wN (F:List Fault)(ok:Bool)(n:Int)(h:r=0∨(k:Int) < (rch d r).delay):qJ d r k g F ok n=.inr (F,g):=by
 unfold qJ
 have:(((r:Int) ==0) ||(decide ((k:Int) < (rch d r).delay)))=true:=by
  rw[Bool.or_eq_true,beq_iff_eq,decide_eq_true_eq];omega
 rw[this];rfl
theorem ES (F:List Fault)(n:Int)(h:¬ (r=0∨(k:Int) < (rch d r).delay)):qJ d r k g F false n=.inr (F,g.set (rch d r).up.toNat ((g.getD (rch d r).up.toNat []).set (IntKind.i64.wrap ((k:Int) - (rch d r).delay)).toNat (-1))):=by
 unfold qJ
 have:(((r:Int) ==0) ||(decide ((k:Int) < (rch d r).delay)))=false:=by
  rw[Bool.or_eq_false_iff,beq_eq_false_iff_ne,decide_eq_false_iff_not];omega
 rw[this];rfl
theorem IU (F:List Fault)(n:Int)(h:¬ (r=0∨(k:Int) < (rch d r).delay))(hc:cell g (rch d r).up.toNat (IntKind.i64.wrap ((k:Int) - (rch d r).delay)).toNat≥0):qJ d r k g F true n=.inr (F,g.set (rch d r).up.toNat ((g.getD (rch d r).up.toNat []).set (IntKind.i64.wrap ((k:Int) - (rch d r).delay)).toNat (IntKind.i64.wrap (cell g (rch d r).up.toNat (IntKind.i64.wrap ((k:Int) - (rch d r).delay)).toNat+n)))):=by
 unfold qJ
 have:(((r:Int) ==0) ||(decide ((k:Int) < (rch d r).delay)))=false:=by
  rw[Bool.or_eq_false_iff,beq_eq_false_iff_ne,decide_eq_false_iff_not];omega
 rw[this,decide_eq_true hc];rfl
theorem LI (F:List Fault)(n:Int)(h:¬ (r=0∨(k:Int) < (rch d r).delay))(hc:¬cell g (rch d r).up.toNat (IntKind.i64.wrap ((k:Int) - (rch d r).delay)).toNat≥0):qJ d r k g F true n=.inr (F,g):=by
 unfold qJ
 have:(((r:Int) ==0) ||(decide ((k:Int) < (rch d r).delay)))=false:=by
  rw[Bool.or_eq_false_iff,beq_eq_false_iff_ne,decide_eq_false_iff_not];omega
 rw[this,decide_eq_false hc];rfl
theorem LJ (hr:Right1 d)(hrl:r<d.reaches.length)(h:r≠0):0≤(rch d r).up∧(rch d r).up< (r:Int):=by
 have hx:=(Gt (r:Int) (rch d r)).1 (hr.reach r hrl)
 omega
theorem Rb (hr:Right1 d)(hrl:r<d.reaches.length)(h:r=0):(rch d r).up= -1:=by
 have hx:=(Gt (r:Int) (rch d r)).1 (hr.reach r hrl)
 omega
theorem IV (hr:Right1 d)(hrl:r<d.reaches.length)(hk:k<d.hours.toNat)(hs1:s1.2.2.2=(r:Int))(hs2:s2.2.2=(r:Int))(E:TB d g u w B)(hB:B≤2305843009213693952)(hB0:0≤B):
  ∃ u' T w' g',aA d s1 k (u,F,w)=.inr (u',F++T,w')∧fl d s2 k (F,g)=.inr (F++T,g')∧TB d g' u' w' (B+1073741824)∧T.length≤1:=by
 have hH:=hr.hours;have hH1:=hr.hours1
 have hdy:=lm hr hrl
 have hpre:aU (r:Int) (rch d r)=true:=hr.reach r hrl
 have hw:IntKind.i64.wrap ((k:Int) - (rch d r).delay)=(k:Int) - (rch d r).delay:=bv (by omega) (by omega)
 have hc:=E.cel r k hrl hk
 have l0:=E.lo r k
 have hupF:r=0∨(k:Int) < (rch d r).delay→(rch d r).up<0∨(k:Int) - (rch d r).delay<0:=fun h=>by
  rcases h with h|h
  ·have:=Rb hr hrl h;omega
  ·omega
 have hupT:¬ (r=0∨(k:Int) < (rch d r).delay)→∃ p q:Nat,p<d.reaches.length∧q<d.hours.toNat∧(rch d r).up=(p:Int)∧(k:Int) - (rch d r).delay=(q:Int)∧(rch d r).up.toNat=p∧((k:Int) - (rch d r).delay).toNat=q:=fun h=>by
  have:=LJ hr hrl (fun e=>h (.inl e))
  exact⟨(rch d r).up.toNat,((k:Int) - (rch d r).delay).toNat,by omega,by omega,by omega,by omega,rfl,rfl⟩
 rw[N7 hs2]
 by_cases hu:uv u r k=true
 ·rw[if_pos hu]at hc
  have e1:=Q9 (d:=d) (F:=F) (w:=w) hs1 hw hu
  rw[hc,show((-1:Int) ==0)=false from rfl,show decide ((-1:Int) > 0)=false from rfl]
  simp only[cond_false]
  by_cases hz:r=0∨(k:Int) < (rch d r).delay
  ·rw[wN _ _ _ hz]
   exact⟨_,[],w,g,by rw[e1,List.append_nil],by rw[List.append_nil],(E.far (hupF hz) true).mono (by omega),by simp⟩
  ·rw[ES _ _ hz,hw]
   obtain⟨p,q,hp,hq,e2,e3,e4,e5⟩:=hupT hz
   rw[e4,e5]
   rw[e2,e3]at e1
   exact⟨_,[],w,_,by rw[e1,List.append_nil],by rw[List.append_nil],(E.bad hp hq).mono (by omega),by simp⟩
 ·have hu':uv u r k=false:=by simpa using hu
  rw[if_neg hu]at hc
  by_cases hn:wv w r k=0
  ·have e1:=Q_ (d:=d) (F:=F) hs1 hu' hn
   rw[hc,hn]
   exact⟨u,[],w,g,by rw[e1,List.append_nil],by rw[List.append_nil];rfl,E.mono (by omega),by simp⟩
  ·have hc1:1≤cell g r k:=by omega
   obtain⟨i1,i2,_⟩:=EQ hpre hc1
   have hio:=sO (i:=(r:Int)) (by omega) hpre hc1
   rw[show(cell g r k==0)=false by rw[beq_eq_false_iff_ne];omega,decide_eq_true (p:=cell g r k > 0) (by omega)]
   simp only[cond_false,cond_true]
   rw[i1]
   by_cases hb:(am (rch d r) (cell g r k)).2=false∨(k:Int) < (rch d r).delay
   ·have e1:=Vc (d:=d) (F:=F) hs1 hw hu' hn (by rw[←hc];exact hb)
    rw[←hc]at e1
    have hbb:((!(am (rch d r) (cell g r k)).2) ||(decide ((k:Int) < (rch d r).delay)))=true:=by
     rcases hb with hb|hb
     ·rw[hb];rfl
     ·rw[decide_eq_true hb,Bool.or_true]
    rw[hbb,cond_true]
    by_cases hz:r=0∨(k:Int) < (rch d r).delay
    ·rw[wN _ _ _ hz]
     exact⟨_,_,w,g,e1,rfl,(E.far (hupF hz) _).mono (by omega),by simp⟩
    ·have hb':(am (rch d r) (cell g r k)).2=false:=hb.resolve_right fun h=>hz (.inr h)
     rw[hb',ES _ _ hz,hw]
     obtain⟨p,q,hp,hq,e2,e3,e4,e5⟩:=hupT hz
     rw[e4,e5]
     rw[e2,e3,hb',Bool.not_false,Bool.or_true]at e1
     exact⟨_,_,w,_,e1,rfl,(E.bad hp hq).mono (by omega),by simp⟩
   ·have hg:(am (rch d r) (cell g r k)).2=true:=by
     cases q:(am (rch d r) (cell g r k)).2 with
     |true=>rfl
     |false=>exact absurd (.inl q) hb
    have hkd:¬ (k:Int) < (rch d r).delay:=fun h=>hb (.inr h)
    have e1:=Ra (d:=d) (F:=F) hs1 hw hu' hn (by rw[←hc];exact hg) hkd
    rw[←hc]at e1
    rw[hg,decide_eq_false hkd,i2 hg]
    simp only[Bool.not_true,Bool.or_self,cond_false]
    obtain⟨v,v1,v2,v3,_⟩:=hio.resolve_right fun h=>by rw[hg]at h;exact absurd h.1 (by simp)
    have l0':=E.lo (rch d r).up ((k:Int) - (rch d r).delay)
    have l1':=E.hi (rch d r).up ((k:Int) - (rch d r).delay)
    rw[v1]at e1 ⊢
    simp only at e1 ⊢
    rw[bv (by omega) (by omega)]at e1
    by_cases hz:r=0∨(k:Int) < (rch d r).delay
    ·rw[wN _ _ _ hz]
     exact⟨u,[],_,g,by rw[e1,List.append_nil],by rw[List.append_nil],E.farW (hupF hz) (by omega) (by omega) (by omega),by simp⟩
    ·obtain⟨p,q,hp,hq,e2,e3,e4,e5⟩:=hupT hz
     have hcp:=E.cel p q hp hq
     rw[e2,e3]at e1 l0' l1'
     by_cases hx:cell g p q≥0
     ·rw[IU _ _ hz (by rw[hw,e4,e5];exact hx),hw,e4,e5]
      have:cell g p q=wv w p q:=by
       by_cases hu2:uv u p q=true
       ·rw[if_pos hu2]at hcp;omega
       ·rw[if_neg hu2]at hcp;exact hcp
      rw[bv (by omega) (by omega)]
      exact⟨u,[],_,_,by rw[e1,List.append_nil],by rw[List.append_nil],E.good hp hq (by omega) (by omega) hx,by simp⟩
     ·rw[LI _ _ hz (by rw[hw,e4,e5];exact hx)]
      exact⟨u,[],_,g,by rw[e1,List.append_nil],by rw[List.append_nil],E.hid hp hq (by omega) (by omega) hx,by simp⟩
end
end Go.Sx
end
section
namespace Go.Sx
open Go.Proofs Go.Shelf Go.Sort Go.Lib
set_option maxRecDepth 100000
section
variable {d:District}{s1:List Fault×WM×UM×Int}{r:Nat}{s2:List (List Int)×List Fault×Int}
theorem Rc {k:Nat}{u:UM}{F:List Fault}{w:WM}{g:List (List Int)}{B:Int}(hr:Right1 d)(hrl:r<d.reaches.length)(hk:k<d.hours.toNat)(hs2:s2.2.2=(r:Int))(E:TB d g u w B)(hF:F.length≤1000000):fF d s2 k (F,g):=by
 have hH:=hr.hours;have hH1:=hr.hours1
 have hdy:=lm hr hrl
 have hpre:aU (r:Int) (rch d r)=true:=hr.reach r hrl
 have hw:IntKind.i64.wrap ((k:Int) - (rch d r).delay)=(k:Int) - (rch d r).delay:=bv (by omega) (by omega)
 have a1:(0:Int)≤(r:Int)∧(r:Int) < (g.length:Int):=by rw[E.len];omega
 have a2:(0:Int)≤(k:Int)∧(k:Int) < ((g.getD r []).length:Int):=by rw[E.row r hrl];omega
 have key:(((r:Int) ==0) ||(decide ((k:Int) < (rch d r).delay)))=false→(0≤(rch d r).up∧(rch d r).up< (g.length:Int))∧(0≤(k:Int) - (rch d r).delay∧(k:Int) - (rch d r).delay< ((g.getD (rch d r).up.toNat []).length:Int)):=by
  intro h
  rw[Bool.or_eq_false_iff,beq_eq_false_iff_ne,decide_eq_false_iff_not]at h
  have hu:=LJ hr hrl (fun e=>h.1 (by omega))
  rw[E.len,E.row (rch d r).up.toNat (by omega)]
  omega
 unfold fF
 rw[hs2]
 simp only[Int.toNat_natCast]
 simp only[show IntKind.i64.wrap ((k:Int) - (d.reaches.getD r default).delay)=(k:Int) - (d.reaches.getD r default).delay from hw]
 refine⟨a1,a2,fun _=>⟨a1,a2,⟨fun hpos=>⟨a1,a2,?_,⟨fun _=>⟨a1,a2,?_,fun _ hq=>⟨fun _=>key hq,fun _=>⟨(key hq).1,(key hq).2,fun _=>⟨(key hq).1,(key hq).1,(key hq).2,(key hq).2⟩⟩⟩⟩,fun _ hq=>⟨fun _=>key hq,fun _=>⟨(key hq).1,(key hq).2,fun _=>⟨(key hq).1,(key hq).1,(key hq).2,(key hq).2⟩⟩⟩⟩⟩,fun _ hq=>⟨fun _=>key hq,fun _=>⟨(key hq).1,(key hq).2,fun _=>⟨(key hq).1,(key hq).1,(key hq).2,(key hq).2⟩⟩⟩⟩⟩⟩
 ·simp only[decide_eq_true_eq]at hpos
  exact(EQ hpre (by omega)).2.2
 ·rw[List.length_append]
  unfold dE
  simp only[List.length_cons,List.length_nil]
  omega
theorem ET (hr:Right1 d)(hrl:r<d.reaches.length)(hs1:s1.2.2.2=(r:Int))(hs2:s2.2.2=(r:Int)):∀ (n k:Nat) (u:UM) (F:List Fault) (w:WM) (g:List (List Int)) (B:Int),k+n=d.hours.toNat→TB d g u w B→0≤B→B+n*1073741824≤2305843009213693952→F.length+n≤1000000→
  ∃ u' F' w' g',ap (aA d s1) n k (u,F,w)=.inr (u',F',w')∧ap (fl d s2) n k (F,g)=.inr (F',g')∧TB d g' u' w' (B+n*1073741824)∧F'.length≤F.length+n∧okI (fl d s2) (fF d s2) n k (F,g)
 |0,k,u,F,w,g,B,hk,E,_,_,_=>⟨u,F,w,g,rfl,rfl,E.mono (by omega),Nat.le_refl _,trivial⟩
 |n+1,k,u,F,w,g,B,hk,E,hB0,hB,hF=>by
  obtain⟨u1,T,w1,g1,e1,e2,E1,hT⟩:=IV (F:=F) hr hrl (by omega:k<d.hours.toNat) hs1 hs2 E (by omega) hB0
  have hl:(F++T).length≤F.length+1:=by rw[List.length_append];omega
  obtain⟨u',F',w',g',e3,e4,E2,hl2,ok⟩:=ET hr hrl hs1 hs2 n (k+1) u1 (F++T) w1 g1 (B+1073741824) (by omega) E1 (by omega) (by omega) (by omega)
  refine⟨u',F',w',g',by unfold ap;rw[e1];exact e3,by unfold ap;rw[e2];exact e4,E2.mono (by omega),by omega,Rc hr hrl (by omega) hs2 E (by omega),fun s' e=>?_⟩
  rw[e2]at e;cases e;exact ok
theorem BK (hr:Right1 d):∀ (m n j:Nat) (F:List Fault) (w:WM) (u:UM) (g:List (List Int)) (B:Int) (N:Nat),N=m*d.hours.toNat→m<n→m≤d.reaches.length→TB d g u w B→0≤B→B+N*1073741824≤2305843009213693952→F.length+N≤1000000→
  ∃ F',ap (be d) n j (F,w,u,(m:Int) - 1)=.inl F'∧ap (dV d) n j (g,F,(m:Int) - 1)=.inl F'∧okI (dV d) (jE d) n j (g,F,(m:Int) - 1)∧F'.length≤F.length+N
 |m,0,_,_,_,_,_,_,_,_,h,_,_,_,_,_=>absurd h (Nat.not_lt_zero _)
 |0,n+1,j,F,w,u,g,B,N,hN,_,_,E,_,_,_=>by
  refine⟨F,?_,?_,⟨fun q=>?_,fun s' e=>?_⟩,by omega⟩
  ·simp only[ap];rw[Gp (by omega)]
  ·simp only[ap];unfold dV;simp only;rw[decide_eq_false (by omega),cond_false]
  ·simp only[decide_eq_true_eq]at q;omega
  ·unfold dV at e;simp only at e;rw[decide_eq_false (by omega),cond_false]at e;cases e
 |m+1,n+1,j,F,w,u,g,B,N,hN,hmn,hm,E,hB0,hB,hF=>by
  have hH:=hr.hours;have hR:=hr.reaches
  have hNN:m*d.hours.toNat+d.hours.toNat=N:=by rw[hN,Nat.succ_mul]
  have hm1:((m+1:Nat):Int) - 1=(m:Int):=by omega
  rw[hm1]
  obtain⟨u',F',w',g',e1,e2,E1,hl,ok⟩:=ET (s1:=(F,w,u,(m:Int))) (s2:=(g,F,(m:Int))) hr (by omega:m<d.reaches.length) rfl rfl d.hours.toNat 0 u F w g B (by omega) E hB0 (by omega) (by omega)
  have hst:dV d j (g,F,(m:Int))=.inr (g',F',(m:Int) - 1):=by
   unfold dV
   simp only
   rw[decide_eq_true (by omega),cond_true,e2]
   simp only
   rw[bv (by omega) (by omega)]
  obtain⟨F2,e3,e4,ok2,hl2⟩:=BK hr m n (j+1) F' w' u' g' (B+d.hours.toNat*1073741824) (m*d.hours.toNat) rfl (by omega) (by omega) E1 (by omega) (by omega) (by omega)
  refine⟨F2,?_,?_,⟨fun _=>⟨⟨(by show(0:Int)≤(m:Int);omega),(by show(m:Int) <_;omega)⟩,by omega,ok⟩,fun s' e=>?_⟩,by omega⟩
  ·simp only[ap]
   rw[En (by omega) (by omega) e1]
   exact e3
  ·simp only[ap]
   rw[hst]
   exact e4
  ·rw[hst]at e;cases e;exact ok2
theorem fill (hr:Right1 d):∀ (n j i:Nat) (g:List (List Int)),i≤d.reaches.length→d.reaches.length - i<n→g.length=d.reaches.length→(∀ a,a<i→g.getD a []=List.replicate d.hours.toNat 0)→
  ∃ g',ap (cW d) n j (g,(i:Int))=.inl g'∧g'.length=d.reaches.length∧(∀ a,a<d.reaches.length→g'.getD a []=List.replicate d.hours.toNat 0)∧okI (cW d) (jD d) n j (g,(i:Int))
 |0,_,_,_,_,h,_,_=>absurd h (Nat.not_lt_zero _)
 |n+1,j,i,g,hi,hn,hg,ha=>by
  have hH:=hr.hours;have hH1:=hr.hours1;have hR:=hr.reaches
  rcases Nat.lt_or_eq_of_le hi with hi'|rfl
  ·have hst:cW d j (g,(i:Int))=.inr (g.set i (List.replicate d.hours.toNat 0),((i+1:Nat):Int)):=by
    unfold cW
    simp only
    rw[hg,decide_eq_true (by omega),cond_true,bv (by omega) (by omega),Int.toNat_natCast]
    rfl
   obtain⟨g',e,h1,h2,ok⟩:=fill hr n (j+1) (i+1) (g.set i (List.replicate d.hours.toNat 0)) hi' (by omega) (by rw[List.length_set];exact hg) fun a h=>by
    rw[iK _ _ _ _ _ (by omega)]
    by_cases q:a=i
    ·rw[if_pos q]
    ·rw[if_neg q];exact ha a (by omega)
   refine⟨g',by unfold ap;rw[hst];exact e,h1,h2,fun _ _=>⟨⟨rfl,by omega,by unfold dE;omega⟩,fun _=>by rw[hg];omega⟩,fun s' e'=>?_⟩
   rw[hst]at e';cases e';exact ok
  ·have hst:cW d j (g,(d.reaches.length:Int))=.inl g:=by
    unfold cW
    simp only
    rw[hg,decide_eq_false (by omega),cond_false]
   refine⟨g,by unfold ap;rw[hst],hg,ha,fun _ q=>?_,fun s' e'=>?_⟩
   ·simp only[decide_eq_true_eq,hg]at q;omega
   ·rw[hst]at e';cases e'
theorem sums (c:List Claim){out:List Order}(hr:Right1 d)(ho:Orders1 d out)(hall:∀ x∈out,x.outlet=true)(he:az d c=out):∀ (n i:Nat) (g:List (List Int)) (w:WM),i+n=out.length→TB d g [] w (i*1073741824)→
  ∃ g' w',ap (eC d c) n i g=.inr g'∧ap (ca out d) n i w=.inr w'∧TB d g' [] w' (out.length*1073741824)∧okI (eC d c) (gV d c) n i g
 |0,i,g,w,hi,E=>⟨g,w,rfl,rfl,E.mono (by omega),trivial⟩
 |n+1,i,g,w,hi,E=>by
  have hH:=hr.hours;have hH1:=hr.hours1
  have hi':i<out.length:=by omega
  have hlen:=ho.len
  have hx:=ho.one i hi'
  have h0:=hx.hour0;have h1:=hx.hour;have h2:=hx.index0;have h3:=hx.litres1;have h4:=hx.litres
  have h5:=hx.farm (hall _ (nG _ _ hi'))
  have hf:=hr.farm (out.getD i default).index.toNat (by omega)
  obtain⟨p,hp⟩:∃ p:Nat,(d.farms.getD (out.getD i default).index.toNat default).reach=(p:Int):=⟨(d.farms.getD (out.getD i default).index.toNat default).reach.toNat,by omega⟩
  obtain⟨q,hq⟩:∃ q:Nat,(out.getD i default).hour=(q:Int):=⟨(out.getD i default).hour.toNat,by omega⟩
  have hpR:p<d.reaches.length:=by omega
  have hqH:q<d.hours.toNat:=by omega
  have hc:=E.cel p q hpR hqH
  have hu:uv [] (p:Int) (q:Int)=false:=rfl
  rw[if_neg (by rw[hu];simp)]at hc
  have l0:=E.lo p q
  have l1:=E.hi p q
  have s1:eC d c i g=.inr (g.set p ((g.getD p []).set q (cell g p q+(out.getD i default).litres))):=by
   unfold eC
   rw[he,hp,hq]
   simp only[Int.toNat_natCast]
   rw[show(g.getD p []).getD q 0=cell g p q from rfl,bv (by omega) (by omega)]
  have s2:ca out d i w=.inr (c7 .timetableSlot .int w (sl p q) (wv w p q+(out.getD i default).litres)):=by
   unfold ca
   rw[hp,hq]
   show Sum.inr (c7 .timetableSlot .int w (sl p q) (IntKind.i64.wrap (wv w p q+(out.getD i default).litres)))=_
   rw[bv (by omega) (by omega)]
  have E':=E.good hpR hqH (n:=(out.getD i default).litres) (B':=((i+1:Nat):Int)*1073741824) (by omega) (by omega) (by omega)
  obtain⟨g',w',e1,e2,E2,ok⟩:=sums c hr ho hall he n (i+1) _ _ (by omega) E'
  refine⟨g',w',by unfold ap;rw[s1];exact e1,by unfold ap;rw[s2];exact e2,E2,?_,fun s' e=>?_⟩
  ·unfold gV
   rw[he,hp,hq]
   simp only[Int.toNat_natCast]
   rw[E.len,E.row p hpR]
   exact fun _=>⟨by omega,by omega,by omega,by omega,by omega⟩
  ·rw[s1]at e;cases e;exact ok
theorem Rd (c:List Claim){out:List Order}(hr:Right1 d)(ho:Orders1 d out)(hall:∀ x∈out,x.outlet=true)(he:az d c=out)(hep:eX d c):
  lF d c=aS out d∧nC d c∧(aS out d).length≤500000:=by
 have hH:=hr.hours;have hH1:=hr.hours1;have hR:=hr.reaches
 have hlen:=ho.len
 obtain⟨g0,e0,q1,q2,ok0⟩:=fill hr (d.reaches.length+1) 0 0 (List.replicate d.reaches.length []) (Nat.zero_le _) (by omega) List.length_replicate (fun a h=>absurd h (Nat.not_lt_zero _))
 have E0:TB d g0 [] [] ((0:Nat)*1073741824):=⟨q1,fun a h=>by rw[q2 a h,List.length_replicate],fun a b ha hb=>by unfold cell;rw[q2 a ha,Ae];rfl,fun a b=>(Int.le_refl 0:(0:Int)≤0),fun a b=>(by show(0:Int)≤_;omega)⟩
 obtain⟨g1,w1,e1,e2,E1,ok1⟩:=sums c hr ho hall he out.length 0 g0 [] (by omega) E0
 have hmul:d.reaches.length*d.hours.toNat≤64*4096:=Nat.mul_le_mul hR (by omega)
 obtain⟨F',e3,e4,ok2,hl⟩:=BK hr d.reaches.length (d.reaches.length+1) 0 [] w1 [] g1 (out.length*1073741824) (d.reaches.length*d.hours.toNat) rfl (by omega) (Nat.le_refl _) E1 (by omega) (by omega) (by simp only[List.length_nil];omega)
 have hw:IntKind.i64.wrap ((d.reaches.length:Int) - 1)=(d.reaches.length:Int) - 1:=bv (by omega) (by omega)
 have ht:aS out d=F':=by
  unfold aS
  rw[hw]
  simp only[e2,e3]
 rw[show((0:Nat):Int)=0 from rfl]at e0 ok0
 refine⟨?_,fun _=>⟨⟨rfl,by omega,by unfold dE;omega⟩,fun _=>⟨ok0,fun z hz=>(by rw[e0]at hz;cases hz),fun x hx=>?_⟩⟩,?_⟩
 ·rw[ht]
  unfold lF
  rw[e0]
  simp only[he,e1,hw,e4]
 ·rw[e0]at hx;cases hx
  refine⟨hep,by rw[he];exact ok1,fun s1 hs1 _=>?_⟩
  rw[he,e1]at hs1;cases hs1
  rw[hw]
  exact⟨ok2,fun z hz=>by rw[e4]at hz;cases hz⟩
 ·rw[ht]
  simp only[List.length_nil]at hl
  omega
end
theorem IW (a b:Int):bE [a,b]=if a≠0 then a else b:=by
 rw[qd,Br]
 by_cases h:a=0
 ·rw[if_pos h,if_neg (by simpa using h)]
 ·rw[if_neg h,if_pos h]
theorem Gz (f:Fault)(s:F5)(h:s.1=7):(((s.1==0)&&((s.2.1==0)&&((s.2.2.1==0)&&((s.2.2.2.1==0)&&(s.2.2.2.2==0))))) ||(decide ((bE ([(aP f.hour s.2.1),(aP s.2.2.1 f.index)])) <0)))=((decide (f.hour<s.2.1)) ||((f.hour==s.2.1)&&(decide (f.index > s.2.2.1)))):=by
 rw[h,IW,fJ,fJ]
 simp only[show((7:Int) ==0)=false from rfl,Bool.false_and,Bool.false_or]
 rw[Bool.eq_iff_iff]
 simp only[Bool.or_eq_true,Bool.and_eq_true,decide_eq_true_eq,beq_iff_eq]
 by_cases h1:f.hour<s.2.1
 ·simp[h1]
 ·by_cases h2:f.hour > s.2.1
  ·simp[h1,h2];omega
  ·have:f.hour=s.2.1:=by omega
   simp only[this,Int.lt_irrefl,if_false,ne_eq,not_true_eq_false,false_or,true_and,gt_iff_lt]
   by_cases h3:s.2.2.1<f.index
   ·simp[h3]
   ·simp[h3]
    split <;>omega
theorem Ah (out:List Order)(d:District)(L:List Fault)(hk:∀ f∈L,f.kind=7):∀ (n i:Nat) (s:F5),i+1+n=L.length→s.1=7→∃ s',ap (dD L) n i s=.inr s'∧cI (a8 out d) (L.drop (i+1)) s=.inr s'
 |0,i,s,hi,_=>⟨s,rfl,by rw[List.drop_eq_nil_of_le (by omega)];rfl⟩
 |n+1,i,s,hi,hs=>by
  have hlt:i+1<L.length:=by omega
  rw[List.drop_eq_getElem_cons hlt]
  have hg:L.getD (Int.toNat ((i:Int)+1)) default=L[i+1]:=by
   rw[show Int.toNat ((i:Int)+1)=i+1 by omega];exact cm L default hlt
  have h1:dD L i s=a8 out d L[i+1] s:=by
   unfold dD a8
   rw[hg,Gz _ _ hs]
  have h2:∃ s1:F5,a8 out d L[i+1] s=.inr s1∧s1.1=7:=by
   unfold a8
   cases(((s.1==0)&&((s.2.1==0)&&((s.2.2.1==0)&&((s.2.2.2.1==0)&&(s.2.2.2.2==0))))) ||(decide ((bE ([(aP L[i+1].hour s.2.1),(aP s.2.2.1 L[i+1].index)])) <0)))with
   |true=>exact⟨_,rfl,hk _ (List.getElem_mem hlt)⟩
   |false=>exact⟨_,rfl,hs⟩
  obtain⟨s1,e1,hs1⟩:=h2
  obtain⟨s',e2,e3⟩:=Ah out d L hk n (i+1) s1 (by omega) hs1
  refine⟨s',?_,?_⟩
  ·unfold ap;rw[h1,e1];exact e2
  ·simp only[cI,e1];exact e3
theorem N8 {out:List Order}{d:District}(hk:∀ f∈aS out d,f.kind=7)(hne:aS out d≠[]):mF (aS out d)=dG out d∧l9 (aS out d):=by
 unfold dG
 generalize aS out d=L at hk hne
 cases L with
 |nil=>exact absurd rfl hne
 |cons f L=>
  have h1:a8 out d f (0,0,0,0,0)=.inr (wB f):=by
   unfold a8 wB
   simp only[BEq.rfl,Bool.and_true,Bool.true_or,cond_true]
  have hf:=hk f List.mem_cons_self
  obtain⟨s',e1,e2⟩:=Ah out d (f::L) hk L.length 0 (wB f) (by rw[List.length_cons];omega) hf
  rw[List.drop_succ_cons,List.drop_zero]at e2
  refine⟨?_,⟨⟨by omega,by rw[List.length_cons];omega⟩,?_⟩⟩
  ·simp only[cI,h1,e2]
   unfold mF
   rw[show(f::L).length - 1=L.length by rw[List.length_cons];omega]
   have:ap (dD (f::L)) L.length 0 (((f::L).getD 0 (default:Fault)).kind,((f::L).getD 0 (default:Fault)).hour,((f::L).getD 0 (default:Fault)).index,((f::L).getD 0 (default:Fault)).litres,((f::L).getD 0 (default:Fault)).limit)=.inr s':=e1
   rw[this]
  ·refine jt _ _ _ fun j s _ hj _=>?_
   have:((j:Int)+1) < (((f::L).length:Nat):Int):=by omega
   exact⟨⟨by omega,this⟩,fun _=>⟨by omega,this⟩,fun _ _=>⟨by omega,this⟩,fun _=>⟨by omega,this⟩⟩
end Go.Sx
end
