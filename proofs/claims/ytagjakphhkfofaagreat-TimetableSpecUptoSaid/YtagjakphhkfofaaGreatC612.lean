/- Part of the proof that the law TimetableSpec returns true and leaves its arguments as they were, for all arguments of bulk at most 1048576 (the Upto form). -/
import Derived.Test.YtagjakphhkfofaaGreatC611
import Derived.Test.YtagjakphhkfofaaGreatC610
import Derived.Test.YtagjakphhkfofaaGreatC607
set_option linter.all false
set_option maxHeartbeats 4000000
section
namespace Go.Sx
open Go.Proofs Go.Shelf Go.Sort Go.Lib
set_option maxRecDepth 100000
theorem FK {i:Int}{x:Reach}(h:aU i x=true)(w:Int):kg x w:=fun _ _=>D5 h w
theorem D9 (x:Reach):bY x 0=(0,true):=rfl
section
variable {d:District}{out gs:List Order}{m:Mp}{r:Nat}{s0:List (List Int)×Int}{dm:List Int}
theorem Uh (hs:s0.2=(r:Int))(h:Nat)(g:List (List Int)):cd d s0 dm h g=(bif((!(bY (rch d r) (dm.getD h 0)).2) ||((decide ((bY (rch d r) (dm.getD h 0)).1 > 0))&&(decide ((IntKind.i64.wrap ((h:Int) - (rch d r).delay)) <0))))then .inl ()else(bif(decide ((bY (rch d r) (dm.getD h 0)).1 > 0))then .inr (g.set r ((g.getD r []).set (Int.toNat (IntKind.i64.wrap ((h:Int) - (rch d r).delay))) (bY (rch d r) (dm.getD h 0)).1))else .inr g)):=by
 unfold cd
 rw[hs]
 rfl
theorem KM (l:List Order)(x:Order)(a b:Int):pF (l++[x]) a b=pF l a b+(bif gP a b x then x.litres else 0):=by
 unfold pF
 rw[uz]
 simp[cm]
theorem GR.zero {g:List (List Int)}(p:PI d out gs m r 0)(hr:Right1 d)(hG:GR d gs g (r+1))(hrl:r<d.reaches.length):GR d gs (g.set r (List.replicate d.hours.toNat 0)) r:=by
 refine⟨by rw[List.length_set];exact hG.len,fun a h1 h2=>?_,fun a b h1 h2 h3=>?_⟩
 ·rw[iv _ _ _ _ _ (by rw[hG.len];exact hrl)]
  by_cases e:a=r
  ·rw[if_pos e,List.length_replicate]
  ·rw[if_neg e];exact hG.row a (by omega) h2
 ·unfold cell
  rw[iv _ _ _ _ _ (by rw[hG.len];exact hrl)]
  by_cases e:a=r
  ·rw[if_pos e,zz]
   refine(iu fun x hx=>?_).symm
   obtain⟨q1,q2⟩:=p.gate x hx
   have h0:=q1.h0;have hi:=q1.i0;have hi1:=q1.i1
   have:1≤(rch d x.index).delay:=(hr.reachI hi hi1).delay1
   unfold gP
   rw[show(x.index==(a:Int))=false by rw[beq_eq_false_iff_ne];rcases q2 with q| ⟨q,q3⟩ <;>omega]
   simp
  ·rw[if_neg e]
   exact hG.cel a b (by omega) h2 h3
theorem GR.add {g:List (List Int)}{h:Nat}{v:Int}(p:PI d out gs m r h)(hG:GR d gs g r)(hrl:r<d.reaches.length)(hd:(rch d r).delay≤h)(hd1:1≤(rch d r).delay)(hh:h<d.hours.toNat):
  GR d (gs++[{ hour:=(h:Int) - (rch d r).delay,index:=r,litres:=v,outlet:=false}]) (g.set r ((g.getD r []).set ((h:Int) - (rch d r).delay).toNat v)) r:=by
 have hrow:=hG.row r (Nat.le_refl _) hrl
 refine⟨by rw[List.length_set];exact hG.len,fun a h1 h2=>?_,fun a b h1 h2 h3=>?_⟩
 ·rw[iv _ _ _ _ _ (by rw[hG.len];exact hrl)]
  by_cases e:a=r
  ·rw[if_pos e,List.length_set];exact hrow
  ·rw[if_neg e];exact hG.row a h1 h2
 ·have hc:=hG.cel a b h1 h2 h3
  rw[KM]
  unfold cell at hc ⊢
  rw[iv _ _ _ _ _ (by rw[hG.len];exact hrl)]
  by_cases e:a=r
  ·subst e
   rw[if_pos rfl,iv _ _ _ _ _ (by rw[hrow];omega)]
   by_cases e2:b=((h:Int) - (rch d a).delay).toNat
   ·rw[if_pos e2]
    have hz:pF gs a b=0:=iu fun x hx=>by
     obtain⟨q1,q2⟩:=p.gate x hx
     unfold gP
     by_cases e3:x.index=(a:Int)
     ·have q2':(a:Int)=a∧x.hour+(rch d a).delay< (h:Int):=by
       rcases q2 with q|q
       ·omega
       ·rw[e3]at q;exact q
      rw[show(x.hour==(b:Int))=false by rw[beq_eq_false_iff_ne];omega]
      simp
     ·rw[show(x.index==(a:Int))=false by rw[beq_eq_false_iff_ne];exact e3]
      simp
    rw[hz]
    unfold gP
    simp only[Bool.not_false,Bool.true_and,beq_self_eq_true]
    rw[show((h:Int) - (rch d a).delay==(b:Int))=true by rw[beq_iff_eq];omega]
    simp
   ·rw[if_neg e2,hc]
    unfold gP
    rw[show((h:Int) - (rch d a).delay==(b:Int))=false by rw[beq_eq_false_iff_ne];omega]
    simp
  ·rw[if_neg e,hc]
   unfold gP
   rw[show((r:Int) ==(a:Int))=false by rw[beq_eq_false_iff_ne];omega]
   simp
theorem Qb (hr:Right1 d)(ho:Orders1 d out)(hrl:r<d.reaches.length)(hs:s0.2=(r:Int))(hdl:dm.length=d.hours.toNat):
  ∀ (n h:Nat) (gs:List Order) (m:Mp) (g:List (List Int)),h+n=d.hours.toNat→PI d out gs m r h→GR d gs g r→(∀ b:Nat,b<d.hours.toNat→dm.getD b 0=drw d (out++gs) r b)→
   ((∃ gs' m' g',cF (aF d) (uI r d.hours.toNat h) (out++gs,m)=.inr (out++gs',m')∧aw (cd d s0 dm) n h g=.inr g'∧PI d out gs' m' r d.hours.toNat∧GR d gs' g' r)∨
    ((∃ y,cF (aF d) (uI r d.hours.toNat h) (out++gs,m)=.inl y)∧aw (cd d s0 dm) n h g=.inl ()))∧
   okI (cd d s0 dm) (dE d s0 dm) n h g
 |0,h,gs,m,g,hn,p,hG,hD=>by
  have:h=d.hours.toNat:=by omega
  subst this
  exact⟨.inl ⟨gs,m,g,by rw[o7];rfl,rfl,p,hG⟩,trivial⟩
 |n+1,h,gs,m,g,hn,p,hG,hD=>by
  have hH:=hr.hours;have hH1:=hr.hours1
  have hhl:h<d.hours.toNat:=by omega
  have hdy:=kS hr hrl
  have hw:=hD h hhl
  have hlit:=p.lit hr ho
  have hb:=(m_ (d:=d) hlit r h).1
  have hpre:aU (r:Int) (rch d r)=true:=hr.reach r hrl
  have hin:bY (rch d r) (dm.getD h 0)=ak (rch d r) (drw d (out++gs) r h):=by rw[hw];exact D6 hpre hb
  have heq:=Uh (d:=d) (dm:=dm) hs h g
  rw[bu (by omega) (by omega),hin]at heq
  have hP:∀ (s:List (List Int)),s.length=d.reaches.length→(s.getD r []).length=d.hours.toNat→(((!(ak (rch d r) (drw d (out++gs) r h)).2) ||((decide ((ak (rch d r) (drw d (out++gs) r h)).1 > 0))&&(decide ((h:Int) - (rch d r).delay<0))))=false→(decide ((ak (rch d r) (drw d (out++gs) r h)).1 > 0))=true→(0:Int)≤(h:Int) - (rch d r).delay)→dE d s0 dm h s:=by
   intro s h1 h2 h3
   unfold dE
   rw[hs,Int.toNat_natCast,hdl,h1,h2,show d.reaches.getD r default=rch d r from rfl,bu (by omega) (by omega),hin]
   exact⟨by omega,by omega,FK hpre _,by omega,fun q1 q2=>⟨by omega,h3 q1 q2,by omega⟩⟩
  have hPok:dE d s0 dm h g:=hP g hG.len (hG.row r (Nat.le_refl _) hrl) fun q1 q2=>by
   rw[Bool.or_eq_false_iff,q2,Bool.true_and,decide_eq_false_iff_not]at q1
   omega
  rw[kR hhl]
  simp only[cF,aw]
  rcases vR hr ho hrl hhl (s:=(out++gs,m)) rfl p with⟨e0,e1⟩ | ⟨e0,e1,e2⟩ | ⟨v,e0,e1,e2,e3,e4,e5⟩
  ·rw[e1]
   have hz:cd d s0 dm h g=.inr g:=by
    rw[heq,e0,←D6 hpre (Int.le_refl 0),D9];rfl
   rw[hz]
   simp only
   obtain⟨a1,a2⟩:=Qb hr ho hrl hs hdl n (h+1) gs m g (by omega) (p.skip e0) hG hD
   exact⟨a1,hPok,fun s' e=>by rw[hz]at e;cases e;exact a2⟩
  ·rw[e2]
   have hz:cd d s0 dm h g=.inl ():=by
    rw[heq]
    rcases e1 with e1|e1
    ·rw[e1];rfl
    ·rcases r8 (i:=(r:Int)) (by omega) hpre e0 with⟨v,e5,e6,_⟩ | ⟨e5,_⟩
     ·rw[e5,decide_eq_true (p:=v > 0) (by omega),decide_eq_true (by omega)];rfl
     ·rw[show(ak (rch d r) (drw d (out++gs) r h)).2=false from e5];rfl
   rw[hz]
   simp only
   exact⟨.inr ⟨⟨_,rfl⟩,trivial⟩,hPok,fun s' e=>by rw[hz]at e;cases e⟩
  ·rw[e5]
   have hz:cd d s0 dm h g=.inr (g.set r ((g.getD r []).set ((h:Int) - (rch d r).delay).toNat v)):=by
    rw[heq,e1,decide_eq_true (p:=v > 0) (by omega),decide_eq_false (by omega)];rfl
   rw[hz]
   simp only
   have p':=p.add hr ho hrl hhl e0 e1 e2 e3 e4
   have hG':=hG.add (v:=v) p hrl e2 hdy.1 hhl
   obtain⟨a1,a2⟩:=Qb hr ho hrl hs hdl n (h+1) _ _ _ (by omega) p' hG' fun b hb'=>by
    rw[hD b hb',←List.append_assoc,xn d (out++gs),BZ]
    have hu:=N8 hr hrl
    unfold iT
    simp only[Int.toNat_natCast,Bool.false_and,Bool.false_or,Bool.not_false,Bool.true_and]
    rw[show((d.reaches.getD r default).up==(r:Int))=false by rw[beq_eq_false_iff_ne];have:(rch d r).up<r:=hu;have e:(d.reaches.getD r default).up=(rch d r).up:=rfl;omega]
    simp
   exact⟨a1,hPok,fun s' e=>by rw[hz]at e;cases e;exact a2⟩
theorem Oa (hr:Right1 d)(hg:Good d out)(hall:∀ x∈out,x.outlet=true):∀ (r n k:Nat) (gs:List Order) (m:Mp) (g:List (List Int)),r<d.reaches.length→r+2≤n→PI d out gs m r 0→GR d gs g (r+1)→
   ((∃ gs' m' g',cF (aF d) (pC d.hours.toNat (r+1)) (out++gs,m)=.inr (out++gs',m')∧aw (bP d out) n k (g,(r:Int))=.inl (.inr g')∧PI d out gs' m' 0 d.hours.toNat∧GR d gs' g' 0)∨
    ((∃ y,cF (aF d) (pC d.hours.toNat (r+1)) (out++gs,m)=.inl y)∧aw (bP d out) n k (g,(r:Int))=.inl (.inl ())))∧
   okI (bP d out) (dF d out) n k (g,(r:Int))
 |r,0,_,_,_,_,_,h,_,_=>absurd h (by omega)
 |r,n+1,k,gs,m,g,hrl,hn,p,hG=>by
  have ho:=hg.orders
  have hH:=hr.hours;have hH1:=hr.hours1;have hR:=hr.reaches
  obtain⟨⟨d1,d2⟩,d3⟩:=Ng hg hall r
  have hgs:∀ x∈gs,(r:Int) <x.index:=fun x hx=>by
   obtain⟨q1,q2⟩:=p.gate x hx
   have:1≤(rch d x.index).delay:=(hr.reachI q1.i0 q1.i1).delay1
   have:=q1.h0
   rcases q2 with q| ⟨q,q3⟩ <;>omega
  have hDM:DM d out gs r (r+1) (cC d out r):=⟨d1,fun b hb=>by
   rw[d2 b hb]
   unfold D8
   rw[iu fun x hx=>?_,Int.add_zero]
   have:=hgs x hx
   rw[decide_eq_false (by omega),Bool.and_false]⟩
  have hsr:((g,(r:Int)):List (List Int)×Int).2=(r:Int):=rfl
  obtain⟨⟨dm,k1,kD⟩,k2⟩:=Ug (s0:=(g,(r:Int))) hr ho p hrl hsr hG (d.reaches.length+1) 0 (r+1) _ (Nat.le_refl _) (by omega) (by omega) hDM
  have hval:∀ b:Nat,b<d.hours.toNat→dm.getD b 0=drw d (out++gs) r b:=fun b hb=>by
   rw[kD.val b hb,xn]
   unfold D8
   rw[show cm (fun x=>iT d r b x&&decide (x.index< (d.reaches.length:Int))) gs=drw d gs r b from tx fun x hx=>by
    rw[decide_eq_true (p.gate x hx).1.i1,Bool.and_true]]
  obtain⟨a1,a2⟩:=Qb (s0:=(g,(r:Int))) hr ho hrl hsr kD.len d.hours.toNat 0 gs m _ (by omega) p (GR.zero p hr hG hrl) hval
  have hw1:IntKind.i64.wrap ((r:Int)+1)=((r+1:Nat):Int):=by rw[bu (by omega) (by omega)];omega
  have hw2:IntKind.i64.wrap ((r:Int) - 1)=(r:Int) - 1:=bu (by omega) (by omega)
  have hpre:dF d out k (g,(r:Int)):=by
   unfold dF
   simp only[hw1]
   refine fun _=>⟨⟨trivial,by omega,by unfold eD;omega⟩,fun _=>⟨⟨by omega,by rw[hG.len];omega⟩,d3,k2,fun z e=>?_,fun x e=>⟨by omega,?_⟩⟩⟩
   ·rw[k1]at e;cases e
   ·rw[k1]at e;cases e;exact a2
  have hst:bP d out k (g,(r:Int))=(match aw (cd d (g,(r:Int)) dm) d.hours.toNat 0 (g.set r (List.replicate d.hours.toNat 0))with| .inl _=>.inl (.inl ()) | .inr s_3=>.inr (s_3,(r:Int) - 1)):=by
   unfold bP
   simp only[hw1,hw2]
   rw[decide_eq_true (by omega),cond_true,k1]
   rfl
  rw[o8,ru]
  rcases a1 with⟨gs',m',g',b1,b2,b3,b4⟩ | ⟨⟨y,b1⟩,b2⟩
  ·rw[b1]
   have hst':bP d out k (g,(r:Int))=.inr (g',(r:Int) - 1):=by rw[hst,b2]
   simp only[aw,hst']
   cases r with
   |zero=>
    have hend:∀ j,bP d out j (g',(((0:Nat):Int)) - 1)=.inl (.inr g'):=fun j=>by
     unfold bP
     simp only
     rw[decide_eq_false (by omega),cond_false]
    refine⟨.inl ⟨gs',m',g',rfl,?_,b3,b4⟩,hpre,fun s' e=>?_⟩
    ·cases n with
     |zero=>omega
     |succ n=>simp only[aw,hend]
    ·rw[hst']at e;cases e
     cases n with
     |zero=>trivial
     |succ n=>
      refine⟨?_,fun s' e=>by rw[hend]at e;cases e⟩
      unfold dF
      intro q
      simp only[decide_eq_true_eq]at q
      omega
   |succ r=>
    have e1:(((r+1:Nat):Int)) - 1=(r:Int):=by omega
    rw[e1]
    obtain⟨c1,c2⟩:=Oa hr hg hall r n (k+1) gs' m' g' (by omega) (by omega) (b3.row hrl hH1) b4
    refine⟨c1,hpre,fun s' e=>?_⟩
    rw[hst',e1]at e;cases e;exact c2
  ·rw[b1]
   have hst':bP d out k (g,(r:Int))=.inl (.inl ()):=by rw[hst,b2]
   simp only[aw,hst']
   exact⟨.inr ⟨⟨y,rfl⟩,trivial⟩,hpre,fun s' e=>by rw[hst']at e;cases e⟩
theorem Qc (hr:Right1 d)(p:PI d out gs m 0 d.hours.toNat):PFin d out gs:=by
 obtain⟨gs',e,h⟩:=J0 (out:=out) (s:=(out++gs,m)) hr ⟨gs,0,d.hours.toNat,hr.one,Nat.le_refl _,rfl,by rw[o7];rfl,p⟩
 rw[List.append_cancel_left e]
 exact h
theorem Nh (hN:Nar d out)(hall:∀ x∈out,x.outlet=true):
  ((am d out=([],false,0)∧aV d out=([],false))∨
   ∃ gs g,PFin d out gs∧aV d out=(g,true)∧GR d gs g 0∧am d out=(bif decide (((out++gs).length:Int) > 4096)then([],false,2)else(srt aG (out++gs),true,0)))∧jh d out:=by
 have hg:=hN.good
 have hr:=hg.right
 have ho:=hg.orders
 have hR:=hr.reaches
 have h1:=hr.one
 obtain⟨f1,_,f3⟩:=sa hr ho
 obtain⟨m,hm⟩:=f3 hall
 have hPJ:=yW hr (f1 m hm).2
 have hp0:PI d out [] m (d.reaches.length - 1) 0:=by
  refine⟨fun a b=>(by rw[List.append_nil];exact(f1 m hm).2 a b),fun x hx=>(by cases hx),fun a b a0 a1 b0 b1 q=>?_,List.Pairwise.nil,Nat.zero_le _⟩
  rcases q with q| ⟨q,q2⟩
  ·omega
  ·omega
 have hG0:GR d [] (List.replicate d.reaches.length ([]:List Int)) (d.reaches.length - 1+1):=⟨List.length_replicate,fun a a1 a2=>by omega,fun a b a1 a2=>by omega⟩
 obtain⟨c1,c2⟩:=Oa hr hg hall (d.reaches.length - 1) (d.reaches.length+1) 0 [] m _ (by omega) (by omega) hp0 hG0
 have e1:IntKind.i64.wrap ((d.reaches.length:Int) - 1)=((d.reaches.length - 1:Nat):Int):=by rw[bu (by omega) (by omega)];omega
 have e2:pC d.hours.toNat (d.reaches.length - 1+1)=bq d:=by unfold bq;rw[show d.reaches.length - 1+1=d.reaches.length by omega]
 rw[e2,List.append_nil]at c1
 have hPl:am d out=(match cF (aF d) (bq d) (out,m)with| .inl _=>([],false,0) | .inr s=>(bif decide (((s.1).length:Int) > 4096)then([],false,2)else(srt aG s.1,true,0))):=by
  unfold am
  rw[(nK d out).2 hN]
  simp only[bne_self_eq_false,cond_false]
  rw[hm]
  rfl
 have hI:aV d out=(match aw (bP d out) (d.reaches.length+1) 0 ((List.replicate d.reaches.length []),((d.reaches.length - 1:Nat):Int))with| .inl (.inl x_0_0) =>([],false) | .inl (.inr x_0_1) =>(x_0_1,true) | .inr s_0=>default):=by
  unfold aV
  rw[e1]
  rfl
 refine⟨?_,fun _=>⟨⟨rfl,by omega,by unfold eD;omega⟩,fun _ _=>?_⟩⟩
 ·rcases c1 with⟨gs,m',g,b1,b2,b3,b4⟩ | ⟨⟨y,b1⟩,b2⟩
  ·refine .inr ⟨gs,g,Qc hr b3,by rw[hI,b2],b4,by rw[hPl,b1]⟩
  ·exact .inl ⟨by rw[hPl,b1],by rw[hI,b2]⟩
 ·rw[e1]
  refine⟨c2,fun z e=>?_⟩
  rcases c1 with⟨gs,m',g,b1,b2,b3,b4⟩ | ⟨⟨y,b1⟩,b2⟩
  ·rw[b2]at e;cases e
  ·rw[b2]at e;cases e
end
end Go.Sx
end
section
namespace Go.Sx
open Go.Proofs Go.Shelf Go.Sort Go.Lib
set_option maxRecDepth 100000
theorem Ce (l:List Order)(x:Order)(hl:l.length≤100000):aw (fD l x) (l.length+1) 0 0=.inl (((l.takeWhile fun y=>cJ y x).length:Nat):Int):=by
 have:=A7 (step:=fD l x) (q:=fun y=>cJ y x) (fun j s=>rfl) hl (l.length+1) 0 0 (Nat.zero_le _) (by omega)
 simpa using this
theorem Qd (l:List Order)(x:Order)(hl:l.length≤100000):nb l x=ins (fun y=>cJ y x) x l:=by
 unfold nb
 rw[Ce l x hl,GX]
 simp
theorem Ui (l:List Order)(x:Order)(hl:l.length≤100000):ou l x:=by
 have ht:=Uf (fun y=>cJ y x) l
 refine⟨KL (step:=fD l x) (p:=kh l x) (q:=fun y=>cJ y x) (fun j s=>rfl) hl (fun j s=>rfl) _,fun z e=>?_,fun z e=>?_⟩
 ·rw[Ce l x hl]at e;cases e
 ·rw[Ce l x hl]at e;cases e
  generalize (l.takeWhile fun y=>cJ y x).length=k at ht
  simp only[Int.toNat_natCast,List.nil_append,List.drop_zero,List.take_length]
  refine⟨⟨by omega,by omega,by omega⟩,by unfold eD;simp;omega,fun _=>⟨by unfold eD;simp;omega,fun _=>⟨⟨by omega,by omega,by omega⟩,by unfold eD;simp;omega⟩⟩⟩
theorem Qe (x:Order):K x x:=⟨rfl,rfl,rfl⟩
theorem Cf {l:List Order}(h:l.Pairwise fun x y=>¬K x y):l.Nodup:=List.Pairwise.imp (fun {x y} q (e:x=y) =>q (e▸Qe x)) h
theorem Qf {a b c:Order}(h1:olt a b)(h2:olt b c):olt a c:=by unfold olt at *;omega
theorem KN {l:List Order}{x:Order}(hk:∀ y∈l,¬K x y)(h:l.Pairwise olt):(ins (fun y=>cJ y x) x l).Pairwise olt:=by
 refine D7 (R:=olt) (fun a b c h1 h2=>Qf h1 h2) (fun y hy=>⟨fun q=>(tE y x).1 q,fun q=>?_⟩) h
 have n1:¬olt y x:=fun e=>by rw[(tE y x).2 e]at q;cases q
 by_cases n2:olt x y
 ·exact n2
 ·exact absurd (uJ n2 n1) (hk y hy)
section
variable {d:District}{out gs:List Order}{g:List (List Int)}
structure PT (d:District)(out gs:List Order)(r h:Nat)(l:List Order):Prop where
 asc:l.Pairwise olt
 mem:∀ x,x∈l↔x∈out∨(x∈gs∧(x.index< (r:Int)∨x.index=(r:Int)∧x.hour< (h:Int)))
 len:l.length≤out.length+r*d.hours.toNat+h
theorem PT.step (ho:Good d out)(hall:∀ x∈out,x.outlet=true)(hF:PFin d out gs){r h:Nat}{l:List Order}(p:PT d out gs r h l)(hl:l.length≤100000):
  PT d out gs r (h+1) (bif decide (pF gs r h > 0)then nb l { hour:=(h:Int),index:=(r:Int),litres:=pF gs r h,outlet:=false}else l):=by
 have hK:=uK ho hall hF
 have hKg:gs.Pairwise fun x y=>¬K x y:=(List.pairwise_append.1 hK).2.1
 have hr:=ho.right
 have hgl:∀ x∈gs,x.outlet=false:=fun x hx=>(hF.gate x hx).out
 have hone:=GO ho hF
 by_cases hv:pF gs r h > 0
 ·rw[decide_eq_true hv,cond_true,Qd l _ hl]
  obtain⟨x,hx,x1,x2,x3,x4⟩:=M6 hKg (show pF gs r h≠0 by omega)
  have ex:({ hour:=(h:Int),index:=(r:Int),litres:=pF gs r h,outlet:=false}:Order)=x:=by
   cases x;simp only at x1 x2 x3 x4 ⊢;subst x1 x2 x3 x4;rfl
  rw[ex]
  refine⟨KN (fun y hy k=>?_) p.asc,fun y=>?_,?_⟩
  ·rcases(p.mem y).1 hy with q| ⟨q,q2⟩
   ·have:=k.2.2;rw[x1,hall y q]at this;cases this
   ·have a1:=k.1;have a2:=k.2.1;omega
  ·rw[(uY _ x l).mem_iff,List.mem_cons,p.mem y]
   constructor
   ·rintro (rfl|q| ⟨q,q2⟩)
    ·exact .inr ⟨hx,.inr ⟨x2,by omega⟩⟩
    ·exact .inl q
    ·exact .inr ⟨q,by omega⟩
   ·rintro (q| ⟨q,q2⟩)
    ·exact .inr (.inl q)
    ·by_cases e:y.index=(r:Int)∧y.hour=(h:Int)
     ·exact .inl (B1 hKg q hx ⟨by omega,by omega,by rw[x1,hgl y q]⟩)
     ·exact .inr (.inr ⟨q,by omega⟩)
  ·rw[Nf];have:=p.len;omega
 ·rw[decide_eq_false hv,cond_false]
  refine⟨p.asc,fun y=>?_,by have:=p.len;omega⟩
  rw[p.mem y]
  constructor
  ·rintro (q| ⟨q,q2⟩)
   ·exact .inl q
   ·exact .inr ⟨q,by omega⟩
  ·rintro (q| ⟨q,q2⟩)
   ·exact .inl q
   ·refine .inr ⟨q,?_⟩
    by_cases e:y.index=(r:Int)∧y.hour=(h:Int)
    ·have:=J7 hKg q (hgl y q)
     rw[e.1,e.2]at this
     have:=(hone y (List.mem_append_right _ q)).litres1
     omega
    ·omega
theorem PT.next (hr:Right1 d)(hF:PFin d out gs){r:Nat}{l:List Order}(p:PT d out gs r d.hours.toNat l):PT d out gs (r+1) 0 l:=by
 refine⟨p.asc,fun y=>?_,?_⟩
 ·rw[p.mem y]
  constructor
  ·rintro (q| ⟨q,q2⟩)
   ·exact .inl q
   ·exact .inr ⟨q,by omega⟩
  ·rintro (q| ⟨q,q2⟩)
   ·exact .inl q
   ·have h1:=(hF.gate y q).h1
    have h0:=(hF.gate y q).h0
    have h2:1≤(rch d y.index).delay:=(hr.reachI (hF.gate y q).i0 (hF.gate y q).i1).delay1
    have:=hr.hours1
    exact .inr ⟨q,by omega⟩
 ·have:=p.len
  rw[Nat.add_mul];omega
theorem KO (hN:Nar d out)(hall:∀ x∈out,x.outlet=true)(hF:PFin d out gs)(hI:aV d out=(g,true))(hG:GR d gs g 0):
  (∃ l,aw (eW d out) g.length 0 ([]++out)=.inr l∧l=srt aG (out++gs))∧okI (eW d out) (ji d out) g.length 0 ([]++out):=by
 have hg:=hN.good
 have hr:=hg.right
 have hH:=hr.hours;have hH1:=hr.hours1;have hR:=hr.reaches
 have hw:=hN.wide
 have hol:=hg.len
 have hm:∀ r:Nat,r≤d.reaches.length→r*d.hours.toNat≤1024:=fun r h=>by
  have h1:r*d.hours.toNat≤d.reaches.length*d.hours.toNat:=Nat.mul_le_mul_right _ h
  have h2:((d.reaches.length*d.hours.toNat:Nat):Int)=(d.reaches.length:Int)*d.hours:=by rw[Int.natCast_mul];congr 1;omega
  omega
 have hI1:(aV d out).1=g:=by rw[hI]
 have hcell:∀ r h:Nat,r<d.reaches.length→h<d.hours.toNat→((((aV d out).1).getD r (default:List Int)).getD h (0:Int))=pF gs r h:=fun r h h1 h2=>by
  rw[hI1];exact hG.cel r h (Nat.zero_le _) h1 h2
 have hrowl:∀ r:Nat,r<d.reaches.length→(((aV d out).1).getD r (default:List Int)).length=d.hours.toNat:=fun r h1=>by
  rw[hI1];exact hG.row r (Nat.zero_le _) h1
 have st2:∀ r h l,r<d.reaches.length→h<d.hours.toNat→PT d out gs r h l→l.length≤100000∧∃ l',fI d out r h l=.inr l'∧PT d out gs r (h+1) l':=fun r h l h1 h2 p=>by
  have hl:l.length≤100000:=by have:=p.len;have:=hm r (by omega);omega
  refine⟨hl,_,?_,p.step hg hall hF hl⟩
  unfold fI
  rw[hcell r h h1 h2]
  cases decide (pF gs r h > 0) <;>rfl
 have st1:∀ r l,r<d.reaches.length→PT d out gs r 0 l→(∃ l',eW d out r l=.inr l'∧PT d out gs (r+1) 0 l')∧okI (fI d out r) (gE d out r) d.hours.toNat 0 l:=fun r l h1 p=>by
  obtain⟨l',e,q⟩:=wI (step:=fI d out r) (fun h l=>PT d out gs r h l) d.hours.toNat 0 l p fun h l _ hh q=>(st2 r h l h1 (by omega) q).2
  refine⟨⟨l',by unfold eW;rw[e],PT.next hr hF (by rw[Nat.zero_add]at q;exact q)⟩,?_⟩
  refine gT (fun h l=>PT d out gs r h l) d.hours.toNat 0 l p fun h l _ hh q=>⟨?_,fun s' e=>?_⟩
  ·obtain⟨q1,_⟩:=st2 r h l h1 (by omega) q
   unfold gE
   rw[hrowl r h1]
   exact⟨by omega,fun _=>⟨by omega,Ui _ _ q1⟩⟩
  ·obtain⟨_,l',e',q'⟩:=st2 r h l h1 (by omega) q
   rw[e']at e;cases e;exact q'
 have p0:PT d out gs 0 0 ([]++out):=by
  refine⟨hg.asc,fun x=>?_,by simp⟩
  rw[List.nil_append]
  constructor
  ·exact .inl
  ·rintro (q| ⟨q,q2⟩)
   ·exact q
   ·have:=(hF.gate x q).i0;have:=(hF.gate x q).h0;omega
 rw[hG.len]
 obtain⟨l',e,q⟩:=wI (step:=eW d out) (fun r l=>PT d out gs r 0 l) d.reaches.length 0 _ p0 fun r l _ hh q=>(st1 r l (by omega) q).1
 refine⟨⟨l',e,?_⟩,?_⟩
 ·have hK:=uK hg hall hF
  refine(P5 (l:=out++gs) ?_ q.asc).symm
  refine(List.perm_ext_iff_of_nodup (Cf (q.asc.imp fun {_ _} a=>yY a)) (Cf hK)).2 fun x=>?_
  rw[q.mem x,List.mem_append]
  constructor
  ·rintro (a| ⟨a,_⟩)
   ·exact .inl a
   ·exact .inr a
  ·rintro (a|a)
   ·exact .inl a
   ·exact .inr ⟨a,.inl (by have:=(hF.gate x a).i1;omega)⟩
 ·refine gT (fun r l=>PT d out gs r 0 l) d.reaches.length 0 _ p0 fun r l _ hh q=>⟨?_,fun s' e=>?_⟩
  ·exact fun _=>⟨by omega,(st1 r l (by omega) q).2⟩
  ·obtain⟨⟨l',e',q'⟩,_⟩:=st1 r l (by omega) q
   rw[e']at e;cases e;exact q'
theorem Qg (hr:Right1 d):k8 d=decide ((d.reaches.length:Int)*d.hours > 1024):=by
 have hm:=sb hr
 unfold k8
 rw[bu (by omega) (by omega)]
theorem A9 (out:List Order):aw (fH out) out.length 0 ()=.inr ()↔∀ x∈out,x.outlet=true:=by
 rw[d7]
 unfold fH
 constructor
 ·intro h x hx
  obtain⟨k,hk,rfl⟩:=List.getElem_of_mem hx
  have:=h k hk
  rw[cI out default hk]at this
  cases ho:out[k].outlet with
  |true=>rfl
  |false=>rw[ho]at this;cases this
 ·intro h k hk
  rw[cI out default hk,h _ (List.getElem_mem hk)];rfl
theorem Qh (d:District)(out:List Order):cr d out=am d out∧mT d out:=by
 have hcs:=FJ d out
 by_cases hc:bw d out=0
 ·have hgd:=GN hc
  have hr:=hgd.right
  have hw:=Qg hr
  by_cases hwd:(d.reaches.length:Int)*d.hours > 1024
  ·rw[decide_eq_true hwd]at hw
   have hn:bp d out=2:=by
    have hm:=sb hr
    unfold bp
    rw[hc,bu (by omega) (by omega),decide_eq_true hwd];rfl
   refine⟨?_,pe d out,fun _ q=>by rw[hw]at q;cases q⟩
   unfold cr am
   rw[←hcs,hc,hw,hn];rfl
  ·rw[decide_eq_false hwd]at hw
   have hN:Nar d out:=⟨hgd,by omega⟩
   have hn:=(nK d out).2 hN
   by_cases hall:∀ x∈out,x.outlet=true
   ·have hga:=(A9 out).2 hall
    obtain⟨hI,hIp⟩:=Nh hN hall
    rcases hI with⟨e1,e2⟩ | ⟨gs,g,hF,e1,hG,e2⟩
    ·refine⟨?_,pe d out,fun _ _ _ _=>⟨hIp,fun q=>by rw[e2]at q;cases q⟩⟩
     rw[e1]
     unfold cr
     rw[←hcs,hc,hw,hga,e2];rfl
    ·obtain⟨⟨l,t1,t2⟩,t3⟩:=KO hN hall hF e1 hG
     have hlen:l.length=(out++gs).length:=by rw[t2,(ri _).length_eq]
     refine⟨?_,pe d out,fun _ _ _ _=>⟨hIp,fun q=>⟨?_,fun _=>?_⟩⟩⟩
     ·rw[e2]
      unfold cr
      rw[←hcs,hc,hw,hga]
      simp only[bne_self_eq_false,cond_false]
      rw[e1]
      simp only[Bool.not_true,cond_false]
      rw[t1]
      simp only[hlen]
      rw[t2]
     ·have:=hgd.len;unfold eD;simp;omega
     ·rw[e1];exact t3
   ·have hga:∃ u,aw (fH out) out.length 0 ()=.inl u:=by
     cases e:aw (fH out) out.length 0 ()with
     |inl u=>exact⟨u,rfl⟩
     |inr u=>exact absurd ((A9 out).1 e) hall
    obtain⟨u,hu⟩:=hga
    refine⟨?_,pe d out,fun _ _ s e=>by rw[hu]at e;cases e⟩
    rcases tA d out with⟨q,_⟩ | ⟨_,_,q⟩ | ⟨_,q,_⟩ | ⟨_,q,_⟩ | ⟨_,q,_⟩
    ·exact absurd hn q
    ·rw[q]
     unfold cr
     rw[←hcs,hc,hw,hu];rfl
    ·exact absurd q hall
    ·exact absurd q hall
    ·exact absurd q hall
 ·have hn:bp d out=bw d out:=by
   unfold bp
   rw[show(bw d out==0)=false by rw[beq_eq_false_iff_ne];exact hc];rfl
  have hb:(bw d out !=0)=true:=by simpa using hc
  refine⟨?_,pe d out,fun q=>by rw[←hcs,hb]at q;cases q⟩
  unfold cr am
  rw[←hcs,hn,hb];rfl
end
end Go.Sx
end
section
namespace Go.Sx
open Go.Proofs
section
variable {d:District}{c:List Claim}{l:List Order}
structure Srv (d:District)(c:List Claim)(l:List Order):Prop where
 kp:Keeps d l
 wide:(d.reaches.length:Int)*d.hours≤1024
 lim:Lim d l
 met:∀ f h:Int,j7 c f h≤cm (DD f h) l
theorem KP {f h:Int}{x y:Order}(hx:DD f h x=true)(hy:DD f h y=true):K x y:=by
 unfold DD at hx hy
 simp only[Bool.and_eq_true,beq_iff_eq]at hx hy
 exact⟨by rw[hx.2,hy.2],by rw[hx.1.2,hy.1.2],by rw[hx.1.1,hy.1.1]⟩
theorem Srv.dom (h:Srv d c l)(hc:bt d c=0):∀ x∈aq c,∃ z∈l,K z x∧x.litres≤z.litres:=fun x hx=>by
 have ho:=outs (xr hc)
 have h1:=ho.lit x hx
 have h2:=h.met x.index x.hour
 obtain⟨z,hz,hp⟩:=GP (p:=DD x.index x.hour) (l:=l) (by omega)
 have e:cm (DD x.index x.hour) l=z.litres:=rj h.kp.good.keys (fun _ _ h1 h2=>KP h1 h2) hz hp
 refine⟨z,hz,?_,by omega⟩
 unfold DD at hp
 simp only[Bool.and_eq_true,beq_iff_eq]at hp
 exact⟨hp.2,hp.1.2,by rw[hp.1.1,ho.out x hx]⟩
theorem Srv.ask (h:Srv d c l)(hc:bt d c=0):Askd d c:=by
 refine⟨hc,h.wide,fun x hx=>?_⟩
 obtain⟨z,hz,_,hl⟩:=h.dom hc x hx
 have:=(h.kp.good.one z hz).litres
 omega
end
end Go.Sx
end
section
namespace Go.Sx
open Go.Proofs
section
variable {d:District}{c:List Claim}{l:List Order}
theorem KQ (hc:bt d c=0){f h:Int}(hn:j7 c f h≠0):0≤f∧f< (d.farms.length:Int)∧0≤h∧h<d.hours:=by
 obtain⟨a,ha,e⟩:=tC hn
 have hk:=((nL d c).1 hc).2.2.1 a ha
 unfold okC at hk
 simp only[Bool.and_eq_true,decide_eq_true_eq]at hk
 unfold oP oz at e
 simp only[CertifyPlace.mk.injEq]at e
 omega
end
end Go.Sx
end
section
namespace Go.Sx
open Go.Proofs Go.Shelf Go.Sort Go.Lib
set_option maxRecDepth 100000
theorem H_ {c:List Claim}(h:okL1 c)(f t:Int):eX c f t=j7 c f t:=by
 obtain⟨s',e,hs⟩:=wI (step:=iw c f t) (fun j s=>s=j7 (c.take j) f t) c.length 0 0 rfl fun j s _ hj q=>by
  have hj':j<c.length:=by omega
  have b:=B4 (h.take (j+1)) f t
  have tk:=AV hj' f t
  refine⟨j7 (c.take (j+1)) f t,?_,rfl⟩
  unfold iw
  rw[cI c default hj',q]
  by_cases hc:oP f t=oz c[j]
  ·rw[if_pos hc]at tk
   unfold oP oz at hc
   simp only[CertifyPlace.mk.injEq,and_true]at hc
   rw[show(c[j].farm==f)=true by rw[beq_iff_eq];exact hc.2.symm,show(c[j].hour==t)=true by rw[beq_iff_eq];exact hc.1.symm]
   simp only[Bool.and_self,cond_true]
   rw[←tk,bu (by omega) (by omega)]
  ·rw[if_neg hc,Int.add_zero]at tk
   have:((c[j].farm==f)&&(c[j].hour==t))=false:=by
    rw[Bool.and_eq_false_iff,beq_eq_false_iff_ne,beq_eq_false_iff_ne]
    by_cases q1:c[j].farm=f
    ·by_cases q2:c[j].hour=t
     ·exact absurd (by unfold oP oz;rw[q1,q2]) hc
     ·exact .inr q2
    ·exact .inl q1
   rw[this,cond_false,tk]
 unfold eX
 rw[e]
 rw[hs,Nat.zero_add,List.take_length]
structure OT (d:District)(c:List Claim)(t f:Nat)(o:List Order):Prop where
 out:∀ x∈o,x.outlet=true
 asc:o.Pairwise olt
 lit:∀ x∈o,x.litres=j7 c x.index x.hour∧1≤x.litres
 pos:∀ x∈o,x.hour< (t:Int)∨x.hour=(t:Int)∧x.index< (f:Int)
 all:∀ a b:Nat,b<t∨b=t∧a<f→a<d.farms.length→j7 c a b≠0→∃ x∈o,x.index=(a:Int)∧x.hour=(b:Int)
 len:o.length≤t*d.farms.length+f
theorem OT.step {d:District}{c:List Claim}(hc:okL1 c){t f:Nat}{o:List Order}(p:OT d c t f o):∃ o',eb d c t f o=.inr o'∧OT d c t (f+1) o':=by
 have hn:=B4 hc f t
 unfold eb
 rw[H_ hc]
 by_cases h:j7 c f t > 0
 ·rw[decide_eq_true h,cond_true]
  refine⟨_,rfl,fun x hx=>?_,?_,fun x hx=>?_,fun x hx=>?_,fun a b hab ha hs=>?_,?_⟩
  ·rcases List.mem_append.1 hx with q|q
   ·exact p.out x q
   ·rw[List.mem_singleton.1 q]
  ·rw[List.pairwise_append]
   refine⟨p.asc,List.pairwise_singleton _ _,fun x hx y hy=>?_⟩
   rw[List.mem_singleton.1 hy]
   have h1:=p.pos x hx
   have h2:=p.out x hx
   unfold olt nX
   rw[h2]
   simp only[cond_true]
   rcases h1 with h1| ⟨h1,h3⟩
   ·exact .inl h1
   ·exact .inr ⟨h1,.inr ⟨trivial,h3⟩⟩
  ·rcases List.mem_append.1 hx with q|q
   ·exact p.lit x q
   ·rw[List.mem_singleton.1 q];exact⟨rfl,by simp only;omega⟩
  ·rcases List.mem_append.1 hx with q|q
   ·have:=p.pos x q;omega
   ·rw[List.mem_singleton.1 q];exact .inr ⟨rfl,by simp only;omega⟩
  ·by_cases q:b<t∨b=t∧a<f
   ·obtain⟨x,hx,e⟩:=p.all a b q ha hs
    exact⟨x,List.mem_append_left _ hx,e⟩
   ·have:b=t∧a=f:=by omega
    refine⟨_,List.mem_append_right _ (List.mem_singleton.2 rfl),?_,?_⟩
    ·simp only;omega
    ·simp only;omega
  ·rw[List.length_append]
   have:=p.len
   simp only[List.length_cons,List.length_nil];omega
 ·rw[decide_eq_false h,cond_false]
  refine⟨_,rfl,p.out,p.asc,p.lit,fun x hx=>by have:=p.pos x hx;omega,fun a b hab ha hs=>?_,by have:=p.len;omega⟩
  by_cases q:b<t∨b=t∧a<f
  ·exact p.all a b q ha hs
  ·have e:b=t∧a=f:=by omega
   rw[e.1,e.2]at hs
   omega
theorem OT.next {d:District}{c:List Claim}{t:Nat}{o:List Order}(p:OT d c t d.farms.length o):OT d c (t+1) 0 o:=
 ⟨p.out,p.asc,p.lit,fun x hx=>(by have:=p.pos x hx;omega),fun a b hab ha hs=>p.all a b (by omega) ha hs,(by have:=p.len;rw[Nat.add_mul];omega)⟩
theorem Ia {c:List Claim}{o1 o2:List Order}(a1:∀ x∈o1,x.outlet=true)(a2:o1.Pairwise olt)(a3:∀ x∈o1,x.litres=j7 c x.index x.hour∧1≤x.litres)(a4:∀ f h,j7 c f h≠0→∃ x∈o1,x.index=f∧x.hour=h)
  (b1:∀ x∈o2,x.outlet=true) (b2:o2.Pairwise olt) (b3:∀ x∈o2,x.litres=j7 c x.index x.hour∧1≤x.litres) (b4:∀ f h,j7 c f h≠0→∃ x∈o2,x.index=f∧x.hour=h):o1=o2:=by
 have key:∀ p q:List Order,(∀ x∈p,x.outlet=true)→(∀ x∈p,x.litres=j7 c x.index x.hour∧1≤x.litres)→(∀ x∈q,x.outlet=true)→(∀ x∈q,x.litres=j7 c x.index x.hour∧1≤x.litres)→(∀ f h,j7 c f h≠0→∃ x∈q,x.index=f∧x.hour=h)→∀ x∈p,x∈q:=by
  intro p q c1 c2 c3 c4 c5 x hx
  have h1:=c2 x hx
  obtain⟨y,hy,e1,e2⟩:=c5 x.index x.hour (by omega)
  have h2:=c4 y hy
  have:x=y:=by
   have o1:=c1 x hx
   have o2:=c3 y hy
   rw[e1,e2]at h2
   cases x;cases y
   simp only at *
   subst e1 e2
   rw[o1,o2,h1.1,h2.1]
  rw[this];exact hy
 refine List.Perm.eq_of_pairwise (fun a b _ _ h1 h2=>absurd h2 (fun h2=>by unfold olt at h1 h2;omega)) a2 b2 ?_
 exact(List.perm_ext_iff_of_nodup (Cf (a2.imp fun {_ _} a=>yY a)) (Cf (b2.imp fun {_ _} a=>yY a))).2 fun x=>⟨key o1 o2 a1 a3 b1 b3 b4 x,key o2 o1 b1 b3 a1 a3 a4 x⟩
theorem A_ {d:District}{c:List Claim}(hc:bt d c=0):ay d c=aq c∧eP d c:=by
 have hk:=xr hc
 have hO:=outs hk
 have hr:=DN hc
 have hH:=hr.hours;have hH1:=hr.hours1;have hFl:=hr.farms
 have st1:∀ t o,OT d c t 0 o→(∃ o',fe d c t o=.inr o'∧OT d c (t+1) 0 o')∧(t<d.hours.toNat→okI (eb d c t) (gx d c t) d.farms.length 0 o):=fun t o p=>by
  obtain⟨o',e,q⟩:=wI (step:=eb d c t) (fun f o=>OT d c t f o) d.farms.length 0 o p fun f o _ _ q=>q.step hk
  refine⟨⟨o',by unfold fe;rw[e],(by rw[Nat.zero_add]at q;exact q.next)⟩,fun ht=>?_⟩
  refine gT (fun f o=>OT d c t f o) d.farms.length 0 o p fun f o _ hf q=>⟨fun _ _=>?_,fun s' e=>?_⟩
  ·have:=q.len
   have h2:t*d.farms.length≤4096*600:=Nat.mul_le_mul (by omega) hFl
   rw[List.length_append]
   unfold eD
   simp only[List.length_cons,List.length_nil]
   omega
  ·obtain⟨o',e',q'⟩:=q.step hk
   rw[e']at e;cases e;exact q'
 have p0:OT d c 0 0 []:=⟨fun x hx=>(by cases hx),List.Pairwise.nil,fun x hx=>(by cases hx),fun x hx=>(by cases hx),fun a b hab ha hs=>(by omega),Nat.zero_le _⟩
 obtain⟨o',e,q⟩:=wI (step:=fe d c) (fun t o=>OT d c t 0 o) d.hours.toNat 0 [] p0 fun t o _ _ q=>(st1 t o q).1
 rw[Nat.zero_add]at q
 have hall:∀ f h,j7 c f h≠0→∃ x∈o',x.index=f∧x.hour=h:=fun f h hn=>by
  obtain⟨h1,h2,h3,h4⟩:=KQ hc hn
  obtain⟨x,hx,e1,e2⟩:=q.all f.toNat h.toNat (by omega) (by omega) (by rw[Int.toNat_of_nonneg h1,Int.toNat_of_nonneg h3];exact hn)
  exact⟨x,hx,by omega,by omega⟩
 have heq:o'=aq c:=Ia q.out q.asc q.lit hall hO.out hO.asc hO.lit hO.all
 refine⟨?_,fun _ _=>⟨by omega,?_⟩⟩
 ·unfold ay
  cases c with
  |nil=>
   have:aq []=[]:=List.eq_nil_of_length_eq_zero (by have:=hO.len;simpa using this)
   rw[this];rfl
  |cons a r=>
   rw[show(((a::r).length:Int) ==0)=false by rw[beq_eq_false_iff_ne,List.length_cons];omega,cond_false,e]
   exact heq
 ·refine gT (fun t o=>OT d c t 0 o) d.hours.toNat 0 [] p0 fun t o _ ht q=>⟨(st1 t o q).2 (by omega),fun s' e=>?_⟩
  obtain⟨o',e',q'⟩:=(st1 t o q).1
  rw[e']at e;cases e;exact q'
theorem Ni {ρ:Type}{step:Nat→Unit→ρ⊕Unit}{n:Nat}(h:¬ ∀ j,j<n→step j ()=.inr ()):∃ y,aw step n 0 ()=.inl y:=by
 cases e:aw step n 0 ()with
 |inl y=>exact⟨y,rfl⟩
 |inr u=>exact absurd (fun j hj=>yL e j (Nat.zero_le _) (by omega)) h
theorem Nj (d:District)(c:List Claim):fE d c=(ag d c).2∧lJ d c:=by
 by_cases h1:bt d c=0
 ·have h26:f_ d c=0:=by rw[←wa];exact h1
  have hw:=B9 h1
  obtain⟨o1,o2⟩:=A_ h1
  refine⟨?_,A6 d c,fun _ _ _=>o2⟩
  unfold fE ag
  rw[h26,h1,hw,o1]
  simp only[bne_self_eq_false,cond_false]
  by_cases h2:(d.reaches.length:Int)*d.hours > 1024
  ·rw[decide_eq_true h2];rfl
  ·rw[decide_eq_false h2]
   simp only[cond_false]
   have hst:∀ j,fY d c j ()=bif decide (((aq c).getD j default).litres > 1073741824)then .inl ()else .inr ():=fun j=>by
    unfold fY;rw[o1]
   cases h3:aJ (aq c)with
   |true=>
    obtain⟨x,hx,hl⟩:=(lw _).1 h3
    obtain⟨j,hj,rfl⟩:=List.getElem_of_mem hx
    obtain⟨y,hy⟩:=Ni (step:=fY d c) (n:=(aq c).length) fun q=>by
     have:=q j hj
     rw[hst,cI _ default hj,decide_eq_true hl]at this;cases this
    rw[hy];rfl
   |false=>
    have:aw (fY d c) (aq c).length 0 ()=.inr ():=r7 fun j _ hj=>by
     have hj':j< (aq c).length:=by omega
     rw[hst,cI _ default hj']
     by_cases q:(aq c)[j].litres > 1073741824
     ·have:=(lw _).2 ⟨_,List.getElem_mem hj',q⟩
      rw[h3]at this;cases this
     ·rw[decide_eq_false q];rfl
    rw[this];rfl
 ·have hb:(bt d c !=0)=true:=by simpa using h1
  refine⟨?_,A6 d c,fun q=>by rw[←wa,hb]at q;cases q⟩
  unfold fE ag
  rw[←wa,hb];rfl
end Go.Sx
end
section
namespace Go.Sx
section
variable {σ ρ:Type}{D:Nat→σ→St}{n0 k:Nat}{st:St}{c:Bool}{a b:ρ⊕σ}
theorem Nk (h:c=true)(g:lZ D n0 k st a):lZ D n0 k st (bif c then a else b):=by rw[h];exact g
theorem Nl (h:c=false)(g:lZ D n0 k st b):lZ D n0 k st (bif c then a else b):=by rw[h];exact g
end
end Go.Sx
end
section
namespace Go.Sx
open Go.Proofs
set_option maxRecDepth 100000
set_option linter.unusedSimpArgs false
theorem KR {p:Prop}(h:p:=by(first|done|(repeat' (first|with_reducible refine And.intro ?_ ?_|((with_reducible show _≠_);first|assumption|omega|(simp_all [aZ,bg];done) |grind) |with_reducible intro _)) <;>(first|done|exact Empty.elim ‹Empty› |assumption|rfl|omega|decide|exact fk [0,1,2,3,6] |exact fk [0,1,2,3,4] |exact czl|(simp only[*,cond_true,cond_false,Bool.not_true,Bool.not_false,go_sem,Nat.reduceBEq,Nat.reduceLeDiff,Nat.reduceLT,decide_true,Nat.reduceAdd,Nat.reduceSub,Nat.reduceMul,Int.reduceLE,Int.reduceLT,Int.reduceToNat,Int.reduceNeg,reduceCtorEq];(repeat' (first|with_reducible refine And.intro ?_ ?_|((with_reducible show _≠_);first|assumption|omega|(simp_all [aZ,bg];done) |grind) |with_reducible intro _)) <;>(first|done|assumption|rfl|omega|decide|exact fk [0,1,2,3,6] |exact fk [0,1,2,3,4] |(simp_all [aZ,bg];done))) |(simp_all [okI,aZ,bg];done) |(simp_all [aZ,bg];(first|done|exact fk2 [0,1,2,3,6] |exact fk2 [0,1,2,3,4])) |exact fk2 [0,1,2,3,6] |exact fk2 [0,1,2,3,4]))):p:=h
theorem D_ {p:Prop}(h:p:=by(first|done|(repeat' (first|with_reducible refine And.intro ?_ ?_|((with_reducible show _≠_);first|assumption|omega|(simp_all [aZ,bg];done) |grind) |with_reducible intro _)) <;>(first|done|exact Empty.elim ‹Empty› |assumption|rfl|omega|decide|exact fk [0,1,2,3,4,5,6] |exact fk [0,1,2,3,4,5,8] |exact czl|(simp only[*,cond_true,cond_false,Bool.not_true,Bool.not_false,go_sem,Nat.reduceBEq,Nat.reduceLeDiff,Nat.reduceLT,decide_true,Nat.reduceAdd,Nat.reduceSub,Nat.reduceMul,Int.reduceLE,Int.reduceLT,Int.reduceToNat,Int.reduceNeg,reduceCtorEq];(repeat' (first|with_reducible refine And.intro ?_ ?_|((with_reducible show _≠_);first|assumption|omega|(simp_all [aZ,bg];done) |grind) |with_reducible intro _)) <;>(first|done|assumption|rfl|omega|decide|exact fk [0,1,2,3,4,5,6] |exact fk [0,1,2,3,4,5,8] |(simp_all [aZ,bg];done))) |(simp_all [okI,aZ,bg];done) |(simp_all [aZ,bg];(first|done|exact fk2 [0,1,2,3,4,5,6] |exact fk2 [0,1,2,3,4,5,8])) |exact fk2 [0,1,2,3,4,5,6] |exact fk2 [0,1,2,3,4,5,8]))):p:=h
theorem KS {p:Prop}(h:p:=by simp only[go_sem,Nat.reduceBEq,Nat.reduceLeDiff,Nat.reduceLT,decide_true,Nat.reduceAdd,Nat.reduceSub,Nat.reduceMul,Int.reduceLE,Int.reduceLT,Int.reduceToNat,Int.reduceNeg,reduceCtorEq];all_goals exact rE):p:=h
theorem KT {p:Prop}(h:p:=by simp only[go_sem,Nat.reduceBEq,Nat.reduceLeDiff,Nat.reduceLT,decide_true,Nat.reduceAdd,Nat.reduceSub,Nat.reduceMul,Int.reduceLE,Int.reduceLT,Int.reduceToNat,Int.reduceNeg,reduceCtorEq,hc,hw];all_goals exact rq):p:=h
theorem KU {p:Prop}(h:p:=by simp only[go_sem,Nat.reduceBEq,Nat.reduceLeDiff,Nat.reduceLT,decide_true,Nat.reduceAdd,Nat.reduceSub,Nat.reduceMul,Int.reduceLE,Int.reduceLT,Int.reduceToNat,Int.reduceNeg,reduceCtorEq,hc];all_goals exact rq):p:=h
theorem KV {p:Prop}(h:p:=by simp only[go_sem,Nat.reduceBEq,Nat.reduceLeDiff,Nat.reduceLT,decide_true,Nat.reduceAdd,Nat.reduceSub,Nat.reduceMul,Int.reduceLE,Int.reduceLT,Int.reduceToNat,Int.reduceNeg,reduceCtorEq];all_goals exact KR):p:=h
theorem KW {p:Prop}(h:p:=by simp only[go_sem,Nat.reduceBEq,Nat.reduceLeDiff,Nat.reduceLT,decide_true,Nat.reduceAdd,Nat.reduceSub,Nat.reduceMul,Int.reduceLE,Int.reduceLT,Int.reduceToNat,Int.reduceNeg,reduceCtorEq,hc];all_goals exact D_):p:=h
@[go_sem] def cT (a0:District)(k_0:Nat)(s_0:List (List Int)×Int):(List (List Int))⊕(List (List Int)×Int):=(bif(decide (s_0.2< (s_0.1.length:Int)))then .inr ((s_0.1.set (Int.toNat s_0.2) (List.replicate (Int.toNat a0.hours) (0:Int))),(IntKind.i64.wrap (s_0.2+1)))else .inl s_0.1)
def jl (a0:District)(k_0:Nat)(s_0:List (List Int)×Int):Prop:=(s_0.1.length≤ba→((decide (s_0.2< (s_0.1.length:Int)))=true→((a0.hours=a0.hours∧0≤a0.hours∧a0.hours*((8:Nat):Int)≤((eD:Nat):Int))∧(a0.hours≤((ba:Nat):Int)→(0≤s_0.2∧s_0.2< (s_0.1.length:Int))))))
@[go_sem] def ef (a0:District)(a1:List Claim)(k_1:Nat)(s_1:List (List Int)):Empty⊕(List (List Int)):=.inr (s_1.set (Int.toNat ((a0.farms.getD (Int.toNat (((ay a0 a1).getD k_1 (default:Order)).index)) (default:Farm)).reach)) ((s_1.getD (Int.toNat ((a0.farms.getD (Int.toNat (((ay a0 a1).getD k_1 (default:Order)).index)) (default:Farm)).reach)) []).set (Int.toNat (((ay a0 a1).getD k_1 (default:Order)).hour)) (IntKind.i64.wrap (((s_1.getD (Int.toNat ((a0.farms.getD (Int.toNat (((ay a0 a1).getD k_1 (default:Order)).index)) (default:Farm)).reach)) []).getD (Int.toNat (((ay a0 a1).getD k_1 (default:Order)).hour)) (0:Int))+((ay a0 a1).getD k_1 (default:Order)).litres))))
def gG (a0:District)(a1:List Claim)(k_1:Nat)(s_1:List (List Int)):Prop:=((ay a0 a1).length≤ba→((0≤((ay a0 a1).getD k_1 (default:Order)).index∧((ay a0 a1).getD k_1 (default:Order)).index< (a0.farms.length:Int))∧((0≤(a0.farms.getD (Int.toNat (((ay a0 a1).getD k_1 (default:Order)).index)) (default:Farm)).reach∧(a0.farms.getD (Int.toNat (((ay a0 a1).getD k_1 (default:Order)).index)) (default:Farm)).reach< (s_1.length:Int))∧((0≤(a0.farms.getD (Int.toNat (((ay a0 a1).getD k_1 (default:Order)).index)) (default:Farm)).reach∧(a0.farms.getD (Int.toNat (((ay a0 a1).getD k_1 (default:Order)).index)) (default:Farm)).reach< (s_1.length:Int))∧((0≤((ay a0 a1).getD k_1 (default:Order)).hour∧((ay a0 a1).getD k_1 (default:Order)).hour< ((s_1.getD (Int.toNat ((a0.farms.getD (Int.toNat (((ay a0 a1).getD k_1 (default:Order)).index)) (default:Farm)).reach)) []).length:Int))∧(0≤((ay a0 a1).getD k_1 (default:Order)).hour∧((ay a0 a1).getD k_1 (default:Order)).hour< ((s_1.getD (Int.toNat ((a0.farms.getD (Int.toNat (((ay a0 a1).getD k_1 (default:Order)).index)) (default:Farm)).reach)) []).length:Int)))))))
@[go_sem] def eY (a0:District)(s_2:List (List Int)×List Fault×Int)(k_3:Nat)(s_3:List Fault×List (List Int)):Empty⊕(List Fault×List (List Int)):=(bif(((s_3.2.getD (Int.toNat s_2.2.2) []).getD k_3 (0:Int)) ==0)then .inr (s_3.1,s_3.2)else(bif(decide (((s_3.2.getD (Int.toNat s_2.2.2) []).getD k_3 (0:Int)) > 0))then(bif((!(bG (a0.reaches.getD (Int.toNat s_2.2.2) (default:Reach)) ((s_3.2.getD (Int.toNat s_2.2.2) []).getD k_3 (0:Int))).2) ||(decide ((k_3:Int) < (a0.reaches.getD (Int.toNat s_2.2.2) (default:Reach)).delay)))then(bif((s_2.2.2==0) ||(decide ((k_3:Int) < (a0.reaches.getD (Int.toNat s_2.2.2) (default:Reach)).delay)))then .inr ((s_3.1++([({ kind:=7,hour:=(k_3:Int),index:=s_2.2.2,litres:=((s_3.2.getD (Int.toNat s_2.2.2) []).getD k_3 (0:Int)),limit:=0}:Fault)])),s_3.2)else(bif(!(bG (a0.reaches.getD (Int.toNat s_2.2.2) (default:Reach)) ((s_3.2.getD (Int.toNat s_2.2.2) []).getD k_3 (0:Int))).2)then .inr ((s_3.1++([({ kind:=7,hour:=(k_3:Int),index:=s_2.2.2,litres:=((s_3.2.getD (Int.toNat s_2.2.2) []).getD k_3 (0:Int)),limit:=0}:Fault)])),(s_3.2.set (Int.toNat ((a0.reaches.getD (Int.toNat s_2.2.2) (default:Reach)).up)) ((s_3.2.getD (Int.toNat ((a0.reaches.getD (Int.toNat s_2.2.2) (default:Reach)).up)) []).set (Int.toNat (IntKind.i64.wrap ((k_3:Int) - (a0.reaches.getD (Int.toNat s_2.2.2) (default:Reach)).delay))) (-1))))else(bif(decide (((s_3.2.getD (Int.toNat ((a0.reaches.getD (Int.toNat s_2.2.2) (default:Reach)).up)) []).getD (Int.toNat (IntKind.i64.wrap ((k_3:Int) - (a0.reaches.getD (Int.toNat s_2.2.2) (default:Reach)).delay))) (0:Int))≥0))then .inr ((s_3.1++([({ kind:=7,hour:=(k_3:Int),index:=s_2.2.2,litres:=((s_3.2.getD (Int.toNat s_2.2.2) []).getD k_3 (0:Int)),limit:=0}:Fault)])),(s_3.2.set (Int.toNat ((a0.reaches.getD (Int.toNat s_2.2.2) (default:Reach)).up)) ((s_3.2.getD (Int.toNat ((a0.reaches.getD (Int.toNat s_2.2.2) (default:Reach)).up)) []).set (Int.toNat (IntKind.i64.wrap ((k_3:Int) - (a0.reaches.getD (Int.toNat s_2.2.2) (default:Reach)).delay))) (IntKind.i64.wrap (((s_3.2.getD (Int.toNat ((a0.reaches.getD (Int.toNat s_2.2.2) (default:Reach)).up)) []).getD (Int.toNat (IntKind.i64.wrap ((k_3:Int) - (a0.reaches.getD (Int.toNat s_2.2.2) (default:Reach)).delay))) (0:Int))+(bG (a0.reaches.getD (Int.toNat s_2.2.2) (default:Reach)) ((s_3.2.getD (Int.toNat s_2.2.2) []).getD k_3 (0:Int))).1)))))else .inr ((s_3.1++([({ kind:=7,hour:=(k_3:Int),index:=s_2.2.2,litres:=((s_3.2.getD (Int.toNat s_2.2.2) []).getD k_3 (0:Int)),limit:=0}:Fault)])),s_3.2))))else(bif((s_2.2.2==0) ||(decide ((k_3:Int) < (a0.reaches.getD (Int.toNat s_2.2.2) (default:Reach)).delay)))then .inr (s_3.1,s_3.2)else(bif(!(bG (a0.reaches.getD (Int.toNat s_2.2.2) (default:Reach)) ((s_3.2.getD (Int.toNat s_2.2.2) []).getD k_3 (0:Int))).2)then .inr (s_3.1,(s_3.2.set (Int.toNat ((a0.reaches.getD (Int.toNat s_2.2.2) (default:Reach)).up)) ((s_3.2.getD (Int.toNat ((a0.reaches.getD (Int.toNat s_2.2.2) (default:Reach)).up)) []).set (Int.toNat (IntKind.i64.wrap ((k_3:Int) - (a0.reaches.getD (Int.toNat s_2.2.2) (default:Reach)).delay))) (-1))))else(bif(decide (((s_3.2.getD (Int.toNat ((a0.reaches.getD (Int.toNat s_2.2.2) (default:Reach)).up)) []).getD (Int.toNat (IntKind.i64.wrap ((k_3:Int) - (a0.reaches.getD (Int.toNat s_2.2.2) (default:Reach)).delay))) (0:Int))≥0))then .inr (s_3.1,(s_3.2.set (Int.toNat ((a0.reaches.getD (Int.toNat s_2.2.2) (default:Reach)).up)) ((s_3.2.getD (Int.toNat ((a0.reaches.getD (Int.toNat s_2.2.2) (default:Reach)).up)) []).set (Int.toNat (IntKind.i64.wrap ((k_3:Int) - (a0.reaches.getD (Int.toNat s_2.2.2) (default:Reach)).delay))) (IntKind.i64.wrap (((s_3.2.getD (Int.toNat ((a0.reaches.getD (Int.toNat s_2.2.2) (default:Reach)).up)) []).getD (Int.toNat (IntKind.i64.wrap ((k_3:Int) - (a0.reaches.getD (Int.toNat s_2.2.2) (default:Reach)).delay))) (0:Int))+(bG (a0.reaches.getD (Int.toNat s_2.2.2) (default:Reach)) ((s_3.2.getD (Int.toNat s_2.2.2) []).getD k_3 (0:Int))).1)))))else .inr (s_3.1,s_3.2)))))else(bif((s_2.2.2==0) ||(decide ((k_3:Int) < (a0.reaches.getD (Int.toNat s_2.2.2) (default:Reach)).delay)))then .inr (s_3.1,s_3.2)else(bif(!(decide (((s_3.2.getD (Int.toNat s_2.2.2) []).getD k_3 (0:Int)) > 0)))then .inr (s_3.1,(s_3.2.set (Int.toNat ((a0.reaches.getD (Int.toNat s_2.2.2) (default:Reach)).up)) ((s_3.2.getD (Int.toNat ((a0.reaches.getD (Int.toNat s_2.2.2) (default:Reach)).up)) []).set (Int.toNat (IntKind.i64.wrap ((k_3:Int) - (a0.reaches.getD (Int.toNat s_2.2.2) (default:Reach)).delay))) (-1))))else(bif(decide (((s_3.2.getD (Int.toNat ((a0.reaches.getD (Int.toNat s_2.2.2) (default:Reach)).up)) []).getD (Int.toNat (IntKind.i64.wrap ((k_3:Int) - (a0.reaches.getD (Int.toNat s_2.2.2) (default:Reach)).delay))) (0:Int))≥0))then .inr (s_3.1,(s_3.2.set (Int.toNat ((a0.reaches.getD (Int.toNat s_2.2.2) (default:Reach)).up)) ((s_3.2.getD (Int.toNat ((a0.reaches.getD (Int.toNat s_2.2.2) (default:Reach)).up)) []).set (Int.toNat (IntKind.i64.wrap ((k_3:Int) - (a0.reaches.getD (Int.toNat s_2.2.2) (default:Reach)).delay))) (IntKind.i64.wrap (((s_3.2.getD (Int.toNat ((a0.reaches.getD (Int.toNat s_2.2.2) (default:Reach)).up)) []).getD (Int.toNat (IntKind.i64.wrap ((k_3:Int) - (a0.reaches.getD (Int.toNat s_2.2.2) (default:Reach)).delay))) (0:Int))+0)))))else .inr (s_3.1,s_3.2))))))
def ft (a0:District)(s_2:List (List Int)×List Fault×Int)(k_3:Nat)(s_3:List Fault×List (List Int)):Prop:=((0≤s_2.2.2∧s_2.2.2< (s_3.2.length:Int))∧((0≤(k_3:Int)∧(k_3:Int) < ((s_3.2.getD (Int.toNat s_2.2.2) []).length:Int))∧((((s_3.2.getD (Int.toNat s_2.2.2) []).getD k_3 (0:Int)) ==0)=false→((0≤s_2.2.2∧s_2.2.2< (s_3.2.length:Int))∧((0≤(k_3:Int)∧(k_3:Int) < ((s_3.2.getD (Int.toNat s_2.2.2) []).length:Int))∧(((decide (((s_3.2.getD (Int.toNat s_2.2.2) []).getD k_3 (0:Int)) > 0))=true→((0≤s_2.2.2∧s_2.2.2< (s_3.2.length:Int))∧((0≤(k_3:Int)∧(k_3:Int) < ((s_3.2.getD (Int.toNat s_2.2.2) []).length:Int))∧((ku (a0.reaches.getD (Int.toNat s_2.2.2) (default:Reach)) ((s_3.2.getD (Int.toNat s_2.2.2) []).getD k_3 (0:Int)))∧((((!(bG (a0.reaches.getD (Int.toNat s_2.2.2) (default:Reach)) ((s_3.2.getD (Int.toNat s_2.2.2) []).getD k_3 (0:Int))).2) ||(decide ((k_3:Int) < (a0.reaches.getD (Int.toNat s_2.2.2) (default:Reach)).delay)))=true→((0≤s_2.2.2∧s_2.2.2< (s_3.2.length:Int))∧((0≤(k_3:Int)∧(k_3:Int) < ((s_3.2.getD (Int.toNat s_2.2.2) []).length:Int))∧(((s_3.1++([({ kind:=7,hour:=(k_3:Int),index:=s_2.2.2,litres:=((s_3.2.getD (Int.toNat s_2.2.2) []).getD k_3 (0:Int)),limit:=0}:Fault)])).length*40≤eD)∧((s_3.1++([({ kind:=7,hour:=(k_3:Int),index:=s_2.2.2,litres:=((s_3.2.getD (Int.toNat s_2.2.2) []).getD k_3 (0:Int)),limit:=0}:Fault)])).length≤ba→(((s_2.2.2==0) ||(decide ((k_3:Int) < (a0.reaches.getD (Int.toNat s_2.2.2) (default:Reach)).delay)))=false→(((!(bG (a0.reaches.getD (Int.toNat s_2.2.2) (default:Reach)) ((s_3.2.getD (Int.toNat s_2.2.2) []).getD k_3 (0:Int))).2)=true→((0≤(a0.reaches.getD (Int.toNat s_2.2.2) (default:Reach)).up∧(a0.reaches.getD (Int.toNat s_2.2.2) (default:Reach)).up< (s_3.2.length:Int))∧(0≤(IntKind.i64.wrap ((k_3:Int) - (a0.reaches.getD (Int.toNat s_2.2.2) (default:Reach)).delay))∧(IntKind.i64.wrap ((k_3:Int) - (a0.reaches.getD (Int.toNat s_2.2.2) (default:Reach)).delay)) < ((s_3.2.getD (Int.toNat ((a0.reaches.getD (Int.toNat s_2.2.2) (default:Reach)).up)) []).length:Int))))∧((!(bG (a0.reaches.getD (Int.toNat s_2.2.2) (default:Reach)) ((s_3.2.getD (Int.toNat s_2.2.2) []).getD k_3 (0:Int))).2)=false→((0≤(a0.reaches.getD (Int.toNat s_2.2.2) (default:Reach)).up∧(a0.reaches.getD (Int.toNat s_2.2.2) (default:Reach)).up< (s_3.2.length:Int))∧((0≤(IntKind.i64.wrap ((k_3:Int) - (a0.reaches.getD (Int.toNat s_2.2.2) (default:Reach)).delay))∧(IntKind.i64.wrap ((k_3:Int) - (a0.reaches.getD (Int.toNat s_2.2.2) (default:Reach)).delay)) < ((s_3.2.getD (Int.toNat ((a0.reaches.getD (Int.toNat s_2.2.2) (default:Reach)).up)) []).length:Int))∧((decide (((s_3.2.getD (Int.toNat ((a0.reaches.getD (Int.toNat s_2.2.2) (default:Reach)).up)) []).getD (Int.toNat (IntKind.i64.wrap ((k_3:Int) - (a0.reaches.getD (Int.toNat s_2.2.2) (default:Reach)).delay))) (0:Int))≥0))=true→((0≤(a0.reaches.getD (Int.toNat s_2.2.2) (default:Reach)).up∧(a0.reaches.getD (Int.toNat s_2.2.2) (default:Reach)).up< (s_3.2.length:Int))∧((0≤(a0.reaches.getD (Int.toNat s_2.2.2) (default:Reach)).up∧(a0.reaches.getD (Int.toNat s_2.2.2) (default:Reach)).up< (s_3.2.length:Int))∧((0≤(IntKind.i64.wrap ((k_3:Int) - (a0.reaches.getD (Int.toNat s_2.2.2) (default:Reach)).delay))∧(IntKind.i64.wrap ((k_3:Int) - (a0.reaches.getD (Int.toNat s_2.2.2) (default:Reach)).delay)) < ((s_3.2.getD (Int.toNat ((a0.reaches.getD (Int.toNat s_2.2.2) (default:Reach)).up)) []).length:Int))∧(0≤(IntKind.i64.wrap ((k_3:Int) - (a0.reaches.getD (Int.toNat s_2.2.2) (default:Reach)).delay))∧(IntKind.i64.wrap ((k_3:Int) - (a0.reaches.getD (Int.toNat s_2.2.2) (default:Reach)).delay)) < ((s_3.2.getD (Int.toNat ((a0.reaches.getD (Int.toNat s_2.2.2) (default:Reach)).up)) []).length:Int))))))))))))))))∧(((!(bG (a0.reaches.getD (Int.toNat s_2.2.2) (default:Reach)) ((s_3.2.getD (Int.toNat s_2.2.2) []).getD k_3 (0:Int))).2) ||(decide ((k_3:Int) < (a0.reaches.getD (Int.toNat s_2.2.2) (default:Reach)).delay)))=false→(((s_2.2.2==0) ||(decide ((k_3:Int) < (a0.reaches.getD (Int.toNat s_2.2.2) (default:Reach)).delay)))=false→(((!(bG (a0.reaches.getD (Int.toNat s_2.2.2) (default:Reach)) ((s_3.2.getD (Int.toNat s_2.2.2) []).getD k_3 (0:Int))).2)=true→((0≤(a0.reaches.getD (Int.toNat s_2.2.2) (default:Reach)).up∧(a0.reaches.getD (Int.toNat s_2.2.2) (default:Reach)).up< (s_3.2.length:Int))∧(0≤(IntKind.i64.wrap ((k_3:Int) - (a0.reaches.getD (Int.toNat s_2.2.2) (default:Reach)).delay))∧(IntKind.i64.wrap ((k_3:Int) - (a0.reaches.getD (Int.toNat s_2.2.2) (default:Reach)).delay)) < ((s_3.2.getD (Int.toNat ((a0.reaches.getD (Int.toNat s_2.2.2) (default:Reach)).up)) []).length:Int))))∧((!(bG (a0.reaches.getD (Int.toNat s_2.2.2) (default:Reach)) ((s_3.2.getD (Int.toNat s_2.2.2) []).getD k_3 (0:Int))).2)=false→((0≤(a0.reaches.getD (Int.toNat s_2.2.2) (default:Reach)).up∧(a0.reaches.getD (Int.toNat s_2.2.2) (default:Reach)).up< (s_3.2.length:Int))∧((0≤(IntKind.i64.wrap ((k_3:Int) - (a0.reaches.getD (Int.toNat s_2.2.2) (default:Reach)).delay))∧(IntKind.i64.wrap ((k_3:Int) - (a0.reaches.getD (Int.toNat s_2.2.2) (default:Reach)).delay)) < ((s_3.2.getD (Int.toNat ((a0.reaches.getD (Int.toNat s_2.2.2) (default:Reach)).up)) []).length:Int))∧((decide (((s_3.2.getD (Int.toNat ((a0.reaches.getD (Int.toNat s_2.2.2) (default:Reach)).up)) []).getD (Int.toNat (IntKind.i64.wrap ((k_3:Int) - (a0.reaches.getD (Int.toNat s_2.2.2) (default:Reach)).delay))) (0:Int))≥0))=true→((0≤(a0.reaches.getD (Int.toNat s_2.2.2) (default:Reach)).up∧(a0.reaches.getD (Int.toNat s_2.2.2) (default:Reach)).up< (s_3.2.length:Int))∧((0≤(a0.reaches.getD (Int.toNat s_2.2.2) (default:Reach)).up∧(a0.reaches.getD (Int.toNat s_2.2.2) (default:Reach)).up< (s_3.2.length:Int))∧((0≤(IntKind.i64.wrap ((k_3:Int) - (a0.reaches.getD (Int.toNat s_2.2.2) (default:Reach)).delay))∧(IntKind.i64.wrap ((k_3:Int) - (a0.reaches.getD (Int.toNat s_2.2.2) (default:Reach)).delay)) < ((s_3.2.getD (Int.toNat ((a0.reaches.getD (Int.toNat s_2.2.2) (default:Reach)).up)) []).length:Int))∧(0≤(IntKind.i64.wrap ((k_3:Int) - (a0.reaches.getD (Int.toNat s_2.2.2) (default:Reach)).delay))∧(IntKind.i64.wrap ((k_3:Int) - (a0.reaches.getD (Int.toNat s_2.2.2) (default:Reach)).delay)) < ((s_3.2.getD (Int.toNat ((a0.reaches.getD (Int.toNat s_2.2.2) (default:Reach)).up)) []).length:Int)))))))))))))))))∧((decide (((s_3.2.getD (Int.toNat s_2.2.2) []).getD k_3 (0:Int)) > 0))=false→(((s_2.2.2==0) ||(decide ((k_3:Int) < (a0.reaches.getD (Int.toNat s_2.2.2) (default:Reach)).delay)))=false→(((!(decide (((s_3.2.getD (Int.toNat s_2.2.2) []).getD k_3 (0:Int)) > 0)))=true→((0≤(a0.reaches.getD (Int.toNat s_2.2.2) (default:Reach)).up∧(a0.reaches.getD (Int.toNat s_2.2.2) (default:Reach)).up< (s_3.2.length:Int))∧(0≤(IntKind.i64.wrap ((k_3:Int) - (a0.reaches.getD (Int.toNat s_2.2.2) (default:Reach)).delay))∧(IntKind.i64.wrap ((k_3:Int) - (a0.reaches.getD (Int.toNat s_2.2.2) (default:Reach)).delay)) < ((s_3.2.getD (Int.toNat ((a0.reaches.getD (Int.toNat s_2.2.2) (default:Reach)).up)) []).length:Int))))∧((!(decide (((s_3.2.getD (Int.toNat s_2.2.2) []).getD k_3 (0:Int)) > 0)))=false→((0≤(a0.reaches.getD (Int.toNat s_2.2.2) (default:Reach)).up∧(a0.reaches.getD (Int.toNat s_2.2.2) (default:Reach)).up< (s_3.2.length:Int))∧((0≤(IntKind.i64.wrap ((k_3:Int) - (a0.reaches.getD (Int.toNat s_2.2.2) (default:Reach)).delay))∧(IntKind.i64.wrap ((k_3:Int) - (a0.reaches.getD (Int.toNat s_2.2.2) (default:Reach)).delay)) < ((s_3.2.getD (Int.toNat ((a0.reaches.getD (Int.toNat s_2.2.2) (default:Reach)).up)) []).length:Int))∧((decide (((s_3.2.getD (Int.toNat ((a0.reaches.getD (Int.toNat s_2.2.2) (default:Reach)).up)) []).getD (Int.toNat (IntKind.i64.wrap ((k_3:Int) - (a0.reaches.getD (Int.toNat s_2.2.2) (default:Reach)).delay))) (0:Int))≥0))=true→((0≤(a0.reaches.getD (Int.toNat s_2.2.2) (default:Reach)).up∧(a0.reaches.getD (Int.toNat s_2.2.2) (default:Reach)).up< (s_3.2.length:Int))∧((0≤(a0.reaches.getD (Int.toNat s_2.2.2) (default:Reach)).up∧(a0.reaches.getD (Int.toNat s_2.2.2) (default:Reach)).up< (s_3.2.length:Int))∧((0≤(IntKind.i64.wrap ((k_3:Int) - (a0.reaches.getD (Int.toNat s_2.2.2) (default:Reach)).delay))∧(IntKind.i64.wrap ((k_3:Int) - (a0.reaches.getD (Int.toNat s_2.2.2) (default:Reach)).delay)) < ((s_3.2.getD (Int.toNat ((a0.reaches.getD (Int.toNat s_2.2.2) (default:Reach)).up)) []).length:Int))∧(0≤(IntKind.i64.wrap ((k_3:Int) - (a0.reaches.getD (Int.toNat s_2.2.2) (default:Reach)).delay))∧(IntKind.i64.wrap ((k_3:Int) - (a0.reaches.getD (Int.toNat s_2.2.2) (default:Reach)).delay)) < ((s_3.2.getD (Int.toNat ((a0.reaches.getD (Int.toNat s_2.2.2) (default:Reach)).up)) []).length:Int))))))))))))))))))
@[go_sem] def dM (a0:District)(k_2:Nat)(s_2:List (List Int)×List Fault×Int):(List Fault)⊕(List (List Int)×List Fault×Int):=(bif(decide (s_2.2.2≥0))then(match aw (eY a0 s_2) (Int.toNat a0.hours) 0 (s_2.2.1,s_2.1)with| .inl x=>x.elim| .inr s_3=>.inr (s_3.2,s_3.1,(IntKind.i64.wrap (s_2.2.2 - 1))))else .inl s_2.2.1)
def jm (a0:District)(k_2:Nat)(s_2:List (List Int)×List Fault×Int):Prop:=((decide (s_2.2.2≥0))=true→((0≤s_2.2.2∧s_2.2.2< (a0.reaches.length:Int))∧((a0.hours<9223372036854775808)∧okI (eY a0 s_2) (ft a0 s_2) (Int.toNat a0.hours) 0 (s_2.2.1,s_2.1))))
def lg (a0:District)(a1:List Claim):List Fault:=(match aw (cT a0) (a0.reaches.length+1) 0 ((List.replicate a0.reaches.length []),0)with| .inl x_0_0=>(match aw (ef a0 a1) ((ay a0 a1).length) 0 x_0_0 with| .inl x=>x.elim| .inr s_1=>(match aw (dM a0) (a0.reaches.length+1) 0 (s_1,[],(IntKind.i64.wrap ((a0.reaches.length:Int) - 1)))with| .inl x_2_0=>x_2_0| .inr s_2=>default)) | .inr s_0=>default)
def mV (a0:District)(a1:List Claim):Prop:=(a0.reaches.length≤ba→(((a0.reaches.length:Int)=(a0.reaches.length:Int)∧0≤(a0.reaches.length:Int)∧(a0.reaches.length:Int)*((24:Nat):Int)≤((eD:Nat):Int))∧((a0.reaches.length:Int)≤((ba:Nat):Int)→(okI (cT a0) (jl a0) (a0.reaches.length+1) 0 ((List.replicate a0.reaches.length []),0)∧(∀ z_,aw (cT a0) (a0.reaches.length+1) 0 ((List.replicate a0.reaches.length []),0)≠ .inr z_)∧(∀ x_0_0,aw (cT a0) (a0.reaches.length+1) 0 ((List.replicate a0.reaches.length []),0)=.inl x_0_0→((eP a0 a1)∧(okI (ef a0 a1) (gG a0 a1) ((ay a0 a1).length) 0 x_0_0∧(∀ s_1,aw (ef a0 a1) ((ay a0 a1).length) 0 x_0_0=.inr s_1→(a0.reaches.length≤ba→(okI (dM a0) (jm a0) (a0.reaches.length+1) 0 (s_1,[],(IntKind.i64.wrap ((a0.reaches.length:Int) - 1)))∧(∀ z_,aw (dM a0) (a0.reaches.length+1) 0 (s_1,[],(IntKind.i64.wrap ((a0.reaches.length:Int) - 1)))≠ .inr z_)))))))))))
@[go_sem] def uZ:List SV→Option Con:=(pD .district fun a0=>(pR .claim fun a1=>(pE (.det (mV a0 a1) (.nw .fault (lg a0 a1))))))
theorem Ac:FnOk Tryz.prog 61 uZ:=by
 have hG:ConsOk Tryz.prog (mkG [(59,fun l=>jk (ci [.st .district,.sl .claim] l)),(106,rK)] []):=aC (cgc (lf.norm [.st .district,.sl .claim]) (cgc w_ cg0)) cg0
 refine tz [(.tmp 4,.fault)] mixed ax hG (fn:=Tryz.f61) (c:=ae Tryz.f61) (by kernel_rfl) (by kernel_rfl) (by kernel_rfl) (by kernel_rfl) (aN fun a0=>(cg fun a1=>(aB (fun hp=>?_))))
 dsimp only[aD]at hp
 unfold mV at hp
 refine⟨Nat.le_of_ble_eq_true rfl,(fun id st=>bif Nat.beq id 0 then some (LCV (ρ:=(List (List Int))) (σ:=(List (List Int)×Int)) 2 [] [0,1,1] (fun k_0 s_0=>⟨[(1,.rs .claim a1),(2,.ptr 0 0),(5,.os 2),(6,.v (.int .i64 s_0.2))],[.cells (cellsOf .district a0),.dead,.grid .int s_0.1]⟩) (cT a0) (jl a0) (a0.reaches.length+1) ((List.replicate a0.reaches.length []),0) (fun _=>.normal) (fun x_0_0=>⟨[(1,.rs .claim a1),(2,.ptr 0 0),(5,.os 2)],[.cells (cellsOf .district a0),.dead,.grid .int x_0_0]⟩) st)else bif Nat.beq id 2 then some (LCR (ρ:=Empty) (σ:=(List (List Int))) 4 [] [0,1,2,3] (fun k_1 s_1=>⟨[(2,.ptr 0 0),(5,.os 2),(7,.os 3),(8,.v (.int .i64 (k_1:Int)))],[.cells (cellsOf .district a0),.dead,.grid .int s_1,.row .order (ay a0 a1)]⟩) (ef a0 a1) (gG a0 a1) ((ay a0 a1).length) (bg (aw (cT a0) (a0.reaches.length+1) 0 ((List.replicate a0.reaches.length []),0))) (True) ((·.elim)) ((·.elim)) st)else bif Nat.beq id 4 then some (LCV (ρ:=(List Fault)) (σ:=(List (List Int)×List Fault×Int)) 4 [.slot 10 (.row .fault ([]))] [0,1,2,3,4] (fun k_2 s_2=>⟨[(2,.ptr 0 0),(5,.os 2),(10,.os 4),(11,.v (.int .i64 s_2.2.2))],[.cells (cellsOf .district a0),.dead,.grid .int s_2.1,.dead,.row .fault s_2.2.1]⟩) (dM a0) (jm a0) (a0.reaches.length+1) ((aZ (aw (ef a0 a1) ((ay a0 a1).length) 0 (bg (aw (cT a0) (a0.reaches.length+1) 0 ((List.replicate a0.reaches.length []),0))))),[],(IntKind.i64.wrap ((a0.reaches.length:Int) - 1))) (fun _=>.normal) (fun x_2_0=>⟨[(10,.os 4)],[.dead,.dead,.dead,.dead,.row .fault x_2_0]⟩) st)else none),?_,?_⟩
 ·unfold ae Tryz.f61
  simp only[az,true_and,and_true]
  refine⟨?_,?_,?_⟩
  ·refine jR mixed ax hG (by kernel_rfl) (fun _=>rfl) fun k_0 s_0 hq0=>⟨L0,aj _,?_⟩
   ·unfold jl at hq0
    exact KS
  ·refine d6 ((ay a0 a1).length≤ba) mixed ax hG (by kernel_rfl) (fun _=>rfl) ((ay a0 a1).length:Int) rfl g6 (fun hb1 k_1 s_1 hlt1 hq1 hw hc=>⟨L0,aj _,?_⟩) (fun hb1 s_1 hc=>?_) fun hb1 k_1 s_1=>?_
   ·unfold gG at hq1
    try simp only[hw,Int.toNat_natCast]at hq1
    exact KT
   ·exact KU
   ·simp only[go_sem,Nat.reduceBEq,Nat.reduceLeDiff,Nat.reduceLT,decide_true,Nat.reduceAdd,Nat.reduceSub,Nat.reduceMul,Int.reduceLE,Int.reduceLT,Int.reduceToNat,Int.reduceNeg,reduceCtorEq,hb1]
  ·refine jR mixed ax hG (by kernel_rfl) (fun _=>rfl) fun k_2 s_2 hq2=>⟨(fun id st=>bif Nat.beq id 6 then some (LCR (ρ:=Empty) (σ:=(List Fault×List (List Int))) 6 [] [0,1,2,3,4,5,4] (fun k_3 s_3=>⟨[(2,.ptr 0 0),(5,.os 2),(10,.os 6),(11,.v (.int .i64 s_2.2.2)),(12,.ptr 5 0),(13,.v (.int .i64 (k_3:Int)))],[.cells (cellsOf .district a0),.dead,.grid .int s_3.2,.dead,.dead,.cells (cellsOf .reach (a0.reaches.getD (Int.toNat s_2.2.2) (default:Reach))),.row .fault s_3.1]⟩) (eY a0 s_2) (ft a0 s_2) (Int.toNat a0.hours) (s_2.2.1,s_2.1) (a0.hours<9223372036854775808) ((·.elim)) ((·.elim)) st)else none),?_,?_⟩
   ·simp only[az,true_and,and_true]
    ·refine dy mixed ax hG (by kernel_rfl) (fun _=>rfl) a0.hours rfl id (fun hb3 k_3 s_3 hlt3 hq3 hw hc=>⟨L0,aj _,?_⟩) (fun hb3 s_3 hc=>?_)
     ·unfold ft at hq3
      try simp only[hw,Int.toNat_natCast]at hq3
      simp only[go_sem,Nat.reduceBEq,Nat.reduceLeDiff,Nat.reduceLT,decide_true,Nat.reduceAdd,Nat.reduceSub,Nat.reduceMul,Int.reduceLE,Int.reduceLT,Int.reduceToNat,Int.reduceNeg,reduceCtorEq,hc,hw]
      all_goals (repeat' (first|with_reducible refine And.intro ?_ ?_|with_reducible intro _))
      all_goals first|((repeat (first|replace hq3:=hq3.1 (by assumption) |replace hq3:=hq3.2 (by assumption) |replace hq3:=hq3 (by assumption) |(obtain⟨_,hq3⟩:=hq3)));first|assumption|omega) |((repeat (first|refine Nk (by assumption) ?_|refine Nl (by assumption) ?_));exact D_)
     ·exact KW
   ·unfold jm at hq2
    exact KV
 ·unfold ae Tryz.f61
  try unfold lg
  simp only[go_sem,Nat.reduceBEq,Nat.reduceLeDiff,Nat.reduceLT,decide_true,Nat.reduceAdd,Nat.reduceSub,Nat.reduceMul,Int.reduceLE,Int.reduceLT,Int.reduceToNat,Int.reduceNeg,reduceCtorEq]
  all_goals exact cl
end Go.Sx
end
section
namespace Go.Sx
open Go.Proofs
set_option maxRecDepth 100000
set_option linter.unusedSimpArgs false
@[go_sem] def dA (l_:List Fault)(k_0:Nat)(s_0:Int×Int×Int×Int×Int):Empty⊕(Int×Int×Int×Int×Int):=(bif((decide ((l_.getD (Int.toNat ((k_0:Int)+1)) (default:Fault)).hour<s_0.2.1)) ||(((l_.getD (Int.toNat ((k_0:Int)+1)) (default:Fault)).hour==s_0.2.1)&&(decide ((l_.getD (Int.toNat ((k_0:Int)+1)) (default:Fault)).index > s_0.2.2.1))))then .inr ((l_.getD (Int.toNat ((k_0:Int)+1)) (default:Fault)).kind,(l_.getD (Int.toNat ((k_0:Int)+1)) (default:Fault)).hour,(l_.getD (Int.toNat ((k_0:Int)+1)) (default:Fault)).index,(l_.getD (Int.toNat ((k_0:Int)+1)) (default:Fault)).litres,(l_.getD (Int.toNat ((k_0:Int)+1)) (default:Fault)).limit)else .inr (s_0.1,s_0.2.1,s_0.2.2.1,s_0.2.2.2.1,s_0.2.2.2.2))
def ix (l_:List Fault)(k_0:Nat)(s_0:Int×Int×Int×Int×Int):Prop:=(l_.length≤ba→((0≤((k_0:Int)+1)∧((k_0:Int)+1) < (l_.length:Int))∧(((decide ((l_.getD (Int.toNat ((k_0:Int)+1)) (default:Fault)).hour<s_0.2.1))=false→(0≤((k_0:Int)+1)∧((k_0:Int)+1) < (l_.length:Int)))∧(((decide ((l_.getD (Int.toNat ((k_0:Int)+1)) (default:Fault)).hour<s_0.2.1))=false→(((l_.getD (Int.toNat ((k_0:Int)+1)) (default:Fault)).hour==s_0.2.1)=true→(0≤((k_0:Int)+1)∧((k_0:Int)+1) < (l_.length:Int))))∧(((decide ((l_.getD (Int.toNat ((k_0:Int)+1)) (default:Fault)).hour<s_0.2.1)) ||(((l_.getD (Int.toNat ((k_0:Int)+1)) (default:Fault)).hour==s_0.2.1)&&(decide ((l_.getD (Int.toNat ((k_0:Int)+1)) (default:Fault)).index > s_0.2.2.1))))=true→(0≤((k_0:Int)+1)∧((k_0:Int)+1) < (l_.length:Int)))))))
def ml (l_:List Fault):Fault:=(match aw (dA l_) (l_.length - 1) 0 ((l_.getD 0 (default:Fault)).kind,(l_.getD 0 (default:Fault)).hour,(l_.getD 0 (default:Fault)).index,(l_.getD 0 (default:Fault)).litres,(l_.getD 0 (default:Fault)).limit)with| .inl x=>x.elim| .inr s_0=>({ kind:=s_0.1,hour:=s_0.2.1,index:=s_0.2.2.1,litres:=s_0.2.2.2.1,limit:=s_0.2.2.2.2}:Fault))
def lK (l_:List Fault):Prop:=((0≤0∧0< (l_.length:Int))∧okI (dA l_) (ix l_) (l_.length - 1) 0 ((l_.getD 0 (default:Fault)).kind,(l_.getD 0 (default:Fault)).hour,(l_.getD 0 (default:Fault)).index,(l_.getD 0 (default:Fault)).litres,(l_.getD 0 (default:Fault)).limit))
@[go_sem] def sX:List SV→Option Con:=(pR .fault fun l_=>(pE (.det (lK l_) (.agg (cellsOf .fault (ml l_))))))
theorem zA:FnOk Tryz.prog 60 sX:=by
 have hG:ConsOk Tryz.prog (mkG [] []):=aC cg0 cg0
 refine aI [.st .fault] mixed ax hG (fn:=Tryz.f60) (c:=ae Tryz.f60) (by kernel_rfl) (by kernel_rfl) (by kernel_rfl) (by kernel_rfl) (cg fun l_=>(aB (fun hp=>?_)))
 dsimp only[aD]at hp
 unfold lK at hp
 refine⟨Nat.le_of_ble_eq_true rfl,(fun id st=>bif Nat.beq id 0 then some (LC (ρ:=Empty) (σ:=Int×Int×Int×Int×Int) (lk 0 st.t=.rs .fault l_∧lk 2 st.t=.ptr 0 0∧lk 3 st.t=.ptr 1 0∧lk 4 st.t=.v (.int .i64 1)∧st.h=[.cells [.v (.int .i64 0),.v (.int .i64 0),.v (.int .i64 0),.v (.int .i64 0),.v (.int .i64 0)],.cells (cellsOf .fault (l_.getD 0 (default:Fault)))]∧okI (dA l_) (ix l_) (l_.length - 1) 0 ((l_.getD 0 (default:Fault)).kind,(l_.getD 0 (default:Fault)).hour,(l_.getD 0 (default:Fault)).index,(l_.getD 0 (default:Fault)).litres,(l_.getD 0 (default:Fault)).limit)) (aw (dA l_) (l_.length - 1) 0 ((l_.getD 0 (default:Fault)).kind,(l_.getD 0 (default:Fault)).hour,(l_.getD 0 (default:Fault)).index,(l_.getD 0 (default:Fault)).litres,(l_.getD 0 (default:Fault)).limit)) (fun x=>x.elim) (fun x=>x.elim) (fun s_0=>⟨[(2,.ptr 0 0),(3,.ptr 1 0)],[.cells [.v (.int .i64 0),.v (.int .i64 0),.v (.int .i64 0),.v (.int .i64 0),.v (.int .i64 0)],.cells [.v (.int .i64 s_0.1),.v (.int .i64 s_0.2.1),.v (.int .i64 s_0.2.2.1),.v (.int .i64 s_0.2.2.2.1),.v (.int .i64 s_0.2.2.2.2)]]⟩))else none),?_,?_⟩
 ·unfold ae Tryz.f60
  simp only[az,true_and,and_true]
  ·refine vC mixed ax hG (by kernel_rfl) fun st lc hC hp=>?_
   simp only[go_sem,Nat.reduceBEq,Option.some.injEq]at hC
   subst hC
   obtain⟨t,h⟩:=st
   dsimp only[LC]at hp
   obtain⟨e0_0,e0_1,e0_2,e0_3,rfl,hok0⟩:=hp
   refine⟨_,_,_,(dA l_),(ix l_),(l_.length - 1),((l_.getD 0 (default:Fault)).kind,(l_.getD 0 (default:Fault)).hour,(l_.getD 0 (default:Fault)).index,(l_.getD 0 (default:Fault)).litres,(l_.getD 0 (default:Fault)).limit),_,_,_,(fun k_0 s_0=>⟨[(0,.rs .fault l_),(2,.ptr 0 0),(3,.ptr 1 0),(4,.v (.int .i64 ((k_0:Int)+1)))],[.cells [.v (.int .i64 0),.v (.int .i64 0),.v (.int .i64 0),.v (.int .i64 0),.v (.int .i64 0)],.cells [.v (.int .i64 s_0.1),.v (.int .i64 s_0.2.1),.v (.int .i64 s_0.2.2.1),.v (.int .i64 s_0.2.2.2.1),.v (.int .i64 s_0.2.2.2.2)]]⟩),[0,1],rfl,hok0,Nat.le_refl _,?_,fun k_0 s_0 hk0 hp0=>?_⟩
   ·simp only[go_sem,Nat.reduceBEq,Nat.reduceLeDiff,Nat.reduceLT,decide_true,Nat.reduceAdd,Nat.reduceSub,Nat.reduceMul,Int.reduceLE,Int.reduceLT,Int.reduceToNat,Int.reduceNeg,reduceCtorEq,e0_0,e0_1,e0_2,e0_3]
    all_goals (first|done|decide|(repeat' (first|refine And.intro ?_ ?_|rfl|decide)))
   refine⟨L0,?_,?_⟩
   ·simp only[az,and_self,true_and,and_true]
   ·by_cases hb0:l_.length≤ba
    rotate_left
    ·simp only[go_sem,Nat.reduceBEq,Nat.reduceLeDiff,Nat.reduceLT,decide_true,Nat.reduceAdd,Nat.reduceSub,Nat.reduceMul,Int.reduceLE,Int.reduceLT,Int.reduceToNat,Int.reduceNeg,reduceCtorEq,hb0]
    ·by_cases hlt0:k_0< (l_.length - 1)
     ·have hw0:IntKind.i64.wrap (((k_0:Nat):Int)+1+1)=((k_0+1:Nat):Int)+1:=by(have hbb:=hb0;have hll:=hlt0;try unfold ba at hbb);rw[bu (by omega) (by omega)];omega
      have hq0:=hp0 hlt0
      unfold ix at hq0
      replace hq0:=hq0 hb0
      try simp only[hw0,Int.toNat_natCast]at hq0
      have hc0:decide (((k_0:Int)+1) < (l_.length:Int))=true:=by simp only[decide_eq_true_eq];omega
      simp only[go_sem,Nat.reduceBEq,Nat.reduceLeDiff,Nat.reduceLT,decide_true,Nat.reduceAdd,Nat.reduceSub,Nat.reduceMul,Int.reduceLE,Int.reduceLT,Int.reduceToNat,Int.reduceNeg,reduceCtorEq,dA,hc0,hw0]
      all_goals exact cl
     ·have hc0:decide (((k_0:Int)+1) < (l_.length:Int))=false:=by simp only[decide_eq_false_iff_not];omega
      simp only[go_sem,Nat.reduceBEq,Nat.reduceLeDiff,Nat.reduceLT,decide_true,Nat.reduceAdd,Nat.reduceSub,Nat.reduceMul,Int.reduceLE,Int.reduceLT,Int.reduceToNat,Int.reduceNeg,reduceCtorEq,hc0]
      all_goals exact cl2
 ·unfold ae Tryz.f60
  try unfold ml
  simp only[go_sem,Nat.reduceBEq,Nat.reduceLeDiff,Nat.reduceLT,decide_true,Nat.reduceAdd,Nat.reduceSub,Nat.reduceMul,Int.reduceLE,Int.reduceLT,Int.reduceToNat,Int.reduceNeg,reduceCtorEq]
  all_goals exact cl
end Go.Sx
end
section
namespace Go.Sx
open Go.Proofs
set_option maxRecDepth 100000
set_option linter.unusedSimpArgs false
@[go_sem] def kv (l_:List Order)(reach:Int)(fr:Int)(to:Int)(k_0:Nat)(s_0:Int):Empty⊕Int:=(bif((((!(l_.getD k_0 (default:Order)).outlet)&&((l_.getD k_0 (default:Order)).index==reach))&&(decide ((l_.getD k_0 (default:Order)).hour≥fr)))&&(decide ((l_.getD k_0 (default:Order)).hour≤to)))then .inr (IntKind.i64.wrap (s_0+(l_.getD k_0 (default:Order)).litres))else .inr s_0)
def eC (l_:List Order)(reach:Int)(fr:Int)(to:Int):Int:=(match aw (kv l_ reach fr to) l_.length 0 0 with| .inl x=>x.elim| .inr s_0=>s_0)
@[go_sem] def sY:List SV→Option Con:=(pR .order fun l_=>(pI fun reach=>(pI fun fr=>(pI fun to=>(pE (.det True (.v (.int .i64 (eC l_ reach fr to)))))))))
theorem zB:FnOk Tryz.prog 107 sY:=by
 have hG:ConsOk Tryz.prog (mkG [] []):=aC cg0 cg0
 refine aI [.o] mixed ax hG (fn:=Tryz.f107) (c:=ae Tryz.f107) (by kernel_rfl) (by kernel_rfl) (by kernel_rfl) (by kernel_rfl) (cg fun l_=>(b8 fun reach=>(b8 fun fr=>(b8 fun to=>(aB (fun hp=>?_))))))
 dsimp only[aD]at hp
 refine⟨Nat.le_of_ble_eq_true rfl,(fun id st=>bif Nat.beq id 0 then some (LCR (ρ:=Empty) (σ:=Int) 0 [] [] (fun k_0 s_0=>⟨[(0,.rs .order l_),(1,.v (.int .i64 reach)),(2,.v (.int .i64 fr)),(3,.v (.int .i64 to)),(9,.v (.int .i64 s_0)),(10,.v (.int .i64 (k_0:Int)))],[]⟩) (kv l_ reach fr to) pT l_.length 0 (True) ((·.elim)) ((·.elim)) st)else none),?_,?_⟩
 ·unfold ae Tryz.f107
  simp only[az,true_and,and_true]
  ·refine d6 (l_.length≤ba) mixed ax hG (by kernel_rfl) (fun _=>rfl) (l_.length:Int) rfl g6 (fun hb0 k_0 s_0 hlt0 _ hw hc=>⟨L0,aj _,?_⟩) (fun hb0 s_0 hc=>?_) fun hb0 k_0 s_0=>?_
   ·exact l7
   ·exact l8
   ·simp only[go_sem,Nat.reduceBEq,Nat.reduceLeDiff,Nat.reduceLT,decide_true,Nat.reduceAdd,Nat.reduceSub,Nat.reduceMul,Int.reduceLE,Int.reduceLT,Int.reduceToNat,Int.reduceNeg,reduceCtorEq,hb0]
 ·unfold ae Tryz.f107
  try unfold eC
  simp only[go_sem,Nat.reduceBEq,Nat.reduceLeDiff,Nat.reduceLT,decide_true,Nat.reduceAdd,Nat.reduceSub,Nat.reduceMul,Int.reduceLE,Int.reduceLT,Int.reduceToNat,Int.reduceNeg,reduceCtorEq]
  all_goals exact cl
@[go_sem] def gH (a0:District)(a1:List Order)(k_0:Nat)(k_1:Nat)(s_1:Unit):(Int×Int×Int×Int)⊕Unit:=(bif(decide ((eC a1 (k_1:Int) (k_0:Int) (k_0:Int)) > (a0.reaches.getD k_1 (default:Reach)).cap))then .inl (1,(k_1:Int),(eC a1 (k_1:Int) (k_0:Int) (k_0:Int)),(a0.reaches.getD k_1 (default:Reach)).cap)else(bif(decide ((eC a1 (k_1:Int) (IntKind.i64.wrap ((IntKind.i64.wrap ((k_0:Int) - (a0.reaches.getD k_1 (default:Reach)).delay))+1)) (k_0:Int)) > (a0.reaches.getD k_1 (default:Reach)).bank))then .inl (3,(k_1:Int),(eC a1 (k_1:Int) (IntKind.i64.wrap ((IntKind.i64.wrap ((k_0:Int) - (a0.reaches.getD k_1 (default:Reach)).delay))+1)) (k_0:Int)),(a0.reaches.getD k_1 (default:Reach)).bank)else .inr ()))
@[go_sem] def gI (a0:District)(a1:List Order)(k_0:Nat)(s_0:Unit):(Int×Int×Int×Int×Int)⊕Unit:=(match aw (gH a0 a1 k_0) a0.reaches.length 0 ()with| .inl x_1_0=>.inl (x_1_0.1,(k_0:Int),x_1_0.2.1,x_1_0.2.2.1,x_1_0.2.2.2) | .inr s_1=>.inr ())
def gy (a0:District)(a1:List Order):Fault×Bool:=(match aw (gI a0 a1) (Int.toNat a0.hours) 0 ()with| .inl x_0_0=>(({ kind:=x_0_0.1,hour:=x_0_0.2.1,index:=x_0_0.2.2.1,litres:=x_0_0.2.2.2.1,limit:=x_0_0.2.2.2.2}:Fault),true) | .inr s_0=>(bif(decide ((eC a1 0 0 a0.hours) > a0.tank.start))then(({ kind:=4,hour:=0,index:=0,litres:=(eC a1 0 0 a0.hours),limit:=a0.tank.start}:Fault),true)else(({ kind:=0,hour:=0,index:=0,litres:=0,limit:=0}:Fault),false)))
def ic (a0:District)(a1:List Order):Prop:=(a0.hours<9223372036854775808)
@[go_sem] def rL:List SV→Option Con:=(pD .district fun a0=>(pR .order fun a1=>(pE (.det (ic a0 a1) (.tup [.agg (cellsOf .fault ((gy a0 a1).1)),.v (.bool ((gy a0 a1).2))])))))
theorem xa:FnOk Tryz.prog 62 rL:=by
 have hG:ConsOk Tryz.prog (mkG [(107,fun l=>sY (ci [.sl .order,.o,.o,.o] l))] []):=aC (cgc (zB.norm [.sl .order,.o,.o,.o]) cg0) cg0
 refine aI [.st .fault,.o] mixed ax hG (fn:=Tryz.f62) (c:=ae Tryz.f62) (by kernel_rfl) (by kernel_rfl) (by kernel_rfl) (by kernel_rfl) (aN fun a0=>(cg fun a1=>(aB (fun hp=>?_))))
 dsimp only[aD]at hp
 unfold ic at hp
 refine⟨Nat.le_of_ble_eq_true rfl,(fun id st=>bif Nat.beq id 0 then some (LCR (ρ:=(Int×Int×Int×Int×Int)) (σ:=Unit) 2 [] [0,1] (fun k_0 s_0=>⟨[(1,.rs .order a1),(2,.ptr 0 0),(4,.ptr 1 0),(6,.v (.int .i64 (k_0:Int)))],[.cells (cellsOf .district a0),.cells [.v (.int .i64 0),.v (.int .i64 0),.v (.int .i64 0),.v (.int .i64 0),.v (.int .i64 0)]]⟩) (gI a0 a1) pT (Int.toNat a0.hours) () (a0.hours<9223372036854775808) (fun _=>.ret) (fun x_0_0=>⟨[(4,.ptr 1 0),(5,.v (.bool true))],[.dead,.cells [.v (.int .i64 x_0_0.1),.v (.int .i64 x_0_0.2.1),.v (.int .i64 x_0_0.2.2.1),.v (.int .i64 x_0_0.2.2.2.1),.v (.int .i64 x_0_0.2.2.2.2)]]⟩) st)else none),?_,?_⟩
 ·unfold ae Tryz.f62
  simp only[az,true_and,and_true]
  ·refine dy mixed ax hG (by kernel_rfl) (fun _=>rfl) a0.hours rfl id (fun hb0 k_0 s_0 hlt0 _ hw hc=>⟨(fun id st=>bif Nat.beq id 2 then some (LCR (ρ:=(Int×Int×Int×Int)) (σ:=Unit) 2 [] [0,1] (fun k_1 s_1=>⟨[(1,.rs .order a1),(2,.ptr 0 0),(4,.ptr 1 0),(6,.v (.int .i64 (k_0:Int))),(7,.v (.int .i64 (k_1:Int)))],[.cells (cellsOf .district a0),.cells [.v (.int .i64 0),.v (.int .i64 0),.v (.int .i64 0),.v (.int .i64 0),.v (.int .i64 0)]]⟩) (gH a0 a1 k_0) pT a0.reaches.length () (True) (fun _=>.ret) (fun x_1_0=>⟨[(4,.ptr 1 0),(5,.v (.bool true))],[.dead,.cells [.v (.int .i64 x_1_0.1),.v (.int .i64 (k_0:Int)),.v (.int .i64 x_1_0.2.1),.v (.int .i64 x_1_0.2.2.1),.v (.int .i64 x_1_0.2.2.2)]]⟩) st)else none),?_,?_⟩) (fun hb0 s_0 hc=>?_)
   ·simp only[az,true_and,and_true]
    ·refine d6 (a0.reaches.length≤ba) mixed ax hG (by kernel_rfl) (fun _=>rfl) (a0.reaches.length:Int) rfl g6 (fun hb1 k_1 s_1 hlt1 _ hw hc=>⟨L0,aj _,?_⟩) (fun hb1 s_1 hc=>?_) fun hb1 k_1 s_1=>?_
     ·exact uR
     ·exact uS
     ·simp only[go_sem,Nat.reduceBEq,Nat.reduceLeDiff,Nat.reduceLT,decide_true,Nat.reduceAdd,Nat.reduceSub,Nat.reduceMul,Int.reduceLE,Int.reduceLT,Int.reduceToNat,Int.reduceNeg,reduceCtorEq,hb1]
   ·exact uR
   ·exact uS
 ·unfold ae Tryz.f62
  try unfold gy
  simp only[go_sem,Nat.reduceBEq,Nat.reduceLeDiff,Nat.reduceLT,decide_true,Nat.reduceAdd,Nat.reduceSub,Nat.reduceMul,Int.reduceLE,Int.reduceLT,Int.reduceToNat,Int.reduceNeg,reduceCtorEq]
  all_goals exact cl
end Go.Sx
end
section
namespace Go.Sx
open Go.Proofs
set_option maxRecDepth 100000
set_option linter.unusedSimpArgs false
def dg (d:District)(c:List Claim):List Order×Fault×Bool×Int:=(bif((fE d c) !=0)then([],({ kind:=0,hour:=0,index:=0,litres:=0,limit:=0}:Fault),false,(fE d c))else(bif((cr d (ay d c)).2.2 !=0)then([],({ kind:=0,hour:=0,index:=0,litres:=0,limit:=0}:Fault),false,(cr d (ay d c)).2.2)else(bif(!(cr d (ay d c)).2.1)then([],(ml (lg d c)),true,0)else(bif(gy d ((cr d (ay d c)).1)).2 then([],((gy d ((cr d (ay d c)).1)).1),true,0)else((cr d (ay d c)).1,({ kind:=0,hour:=0,index:=0,litres:=0,limit:=0}:Fault),false,0)))))
def gM (d:District)(c:List Claim):Prop:=((lJ d c)∧(((fE d c) !=0)=false→((eP d c)∧((mT d (ay d c))∧(((cr d (ay d c)).2.2 !=0)=false→(((!(cr d (ay d c)).2.1)=true→((mV d c)∧(lK (lg d c))))∧((!(cr d (ay d c)).2.1)=false→(ic d ((cr d (ay d c)).1)))))))))
@[go_sem] def oC:List SV→Option Con:=(pD .district fun d=>(pR .claim fun c=>(pE (.det (gM d c) (.tup [.rs .order ((dg d c).1),.agg (cellsOf .fault ((dg d c).2.1)),.v (.bool ((dg d c).2.2.1)),.v (.int .i64 ((dg d c).2.2.2))])))))
theorem rM:FnOk Tryz.prog 32 oC:=by
 have hG:ConsOk Tryz.prog (mkG [(39,fun l=>sW (ci [.st .district,.sl .claim] l)),(58,fun l=>uU (ci [.st .district,.sl .order] l)),(59,fun l=>jk (ci [.st .district,.sl .claim] l)),(60,fun l=>sX (ci [.sl .fault] l)),(61,fun l=>uZ (ci [.st .district,.sl .claim] l)),(62,fun l=>rL (ci [.st .district,.sl .order] l))] []):=aC (cgc (zs.norm [.st .district,.sl .claim]) (cgc (z7.norm [.st .district,.sl .order]) (cgc (lf.norm [.st .district,.sl .claim]) (cgc (zA.norm [.sl .fault]) (cgc (Ac.norm [.st .district,.sl .claim]) (cgc (xa.norm [.st .district,.sl .order]) cg0)))))) cg0
 refine aI [.sl .order,.st .fault,.o,.o] mixed ax hG (fn:=Tryz.f32) (c:=ae Tryz.f32) (by kernel_rfl) (by kernel_rfl) (by kernel_rfl) (by kernel_rfl) (aN fun d=>(cg fun c=>(aB (fun hp=>?_))))
 dsimp only[aD]at hp
 unfold gM at hp
 refine⟨Nat.le_of_ble_eq_true rfl,L0,aj _,?_⟩
 ·unfold ae Tryz.f32
  try unfold dg
  simp only[go_sem,Nat.reduceBEq,Nat.reduceLeDiff,Nat.reduceLT,decide_true,Nat.reduceAdd,Nat.reduceSub,Nat.reduceMul,Int.reduceLE,Int.reduceLT,Int.reduceToNat,Int.reduceNeg,reduceCtorEq]
  all_goals exact cl
def fK (d:District)(c:List Claim):List Order×Bool×Int:=(bif(((dg d c).2.2.2 !=0) ||(dg d c).2.2.1)then([],false,(dg d c).2.2.2)else((dg d c).1,true,0))
def mW (d:District)(c:List Claim):Prop:=(gM d c)
@[go_sem] def u4:List SV→Option Con:=(pD .district fun d=>(pR .claim fun c=>(pE (.det (mW d c) (.tup [.rs .order ((fK d c).1),.v (.bool ((fK d c).2.1)),.v (.int .i64 ((fK d c).2.2))])))))
theorem Ad:FnOk Tryz.prog 13 u4:=by
 have hG:ConsOk Tryz.prog (mkG [(32,fun l=>oC (ci [.st .district,.sl .claim] l))] []):=aC (cgc (rM.norm [.st .district,.sl .claim]) cg0) cg0
 refine aI [.sl .order,.o,.o] mixed ax hG (fn:=Tryz.f13) (c:=ae Tryz.f13) (by kernel_rfl) (by kernel_rfl) (by kernel_rfl) (by kernel_rfl) (aN fun d=>(cg fun c=>(aB (fun hp=>?_))))
 dsimp only[aD]at hp
 unfold mW at hp
 refine⟨Nat.le_of_ble_eq_true rfl,L0,aj _,?_⟩
 ·unfold ae Tryz.f13
  try unfold fK
  simp only[go_sem,Nat.reduceBEq,Nat.reduceLeDiff,Nat.reduceLT,decide_true,Nat.reduceAdd,Nat.reduceSub,Nat.reduceMul,Int.reduceLE,Int.reduceLT,Int.reduceToNat,Int.reduceNeg,reduceCtorEq]
  all_goals exact cl
def dK (d:District)(c:List Claim):Fault×Bool×Int:=(((dg d c).2.1),(dg d c).2.2.1,(dg d c).2.2.2)
def lL (d:District)(c:List Claim):Prop:=(gM d c)
@[go_sem] def sZ:List SV→Option Con:=(pD .district fun d=>(pR .claim fun c=>(pE (.det (lL d c) (.tup [.agg (cellsOf .fault ((dK d c).1)),.v (.bool ((dK d c).2.1)),.v (.int .i64 ((dK d c).2.2))])))))
theorem zC:FnOk Tryz.prog 15 sZ:=by
 have hG:ConsOk Tryz.prog (mkG [(32,fun l=>oC (ci [.st .district,.sl .claim] l))] []):=aC (cgc (rM.norm [.st .district,.sl .claim]) cg0) cg0
 refine aI [.st .fault,.o,.o] mixed ax hG (fn:=Tryz.f15) (c:=ae Tryz.f15) (by kernel_rfl) (by kernel_rfl) (by kernel_rfl) (by kernel_rfl) (aN fun d=>(cg fun c=>(aB (fun hp=>?_))))
 dsimp only[aD]at hp
 unfold lL at hp
 refine⟨Nat.le_of_ble_eq_true rfl,L0,aj _,?_⟩
 ·unfold ae Tryz.f15
  try unfold dK
  simp only[go_sem,Nat.reduceBEq,Nat.reduceLeDiff,Nat.reduceLT,decide_true,Nat.reduceAdd,Nat.reduceSub,Nat.reduceMul,Int.reduceLE,Int.reduceLT,Int.reduceToNat,Int.reduceNeg,reduceCtorEq]
  all_goals exact cl
end Go.Sx
end
section
namespace Go.Sx
open Go.Proofs Go.Shelf Go.Sort Go.Lib
set_option maxRecDepth 100000
theorem FL (l:UM)(x z:TimetableSlot)(y:Bool):aK .timetableSlot .bool (cW .timetableSlot .bool l x y) z=if z=x then y else aK .timetableSlot .bool l z:=by
 unfold aK cW
 rw[AO]
 by_cases h:z=x <;>simp[h]
theorem Ea {i:Int}{x:Reach}(h:aU i x=true){w:Int}(hw:1≤w):(bG x w).2=(ak x w).2∧((ak x w).2=true→(bG x w).1=(ak x w).1)∧ku x w:=by
 refine⟨?_,?_,fun _=>D5 h w⟩
 all_goals
  unfold bG ak
  have e0:(w==0)=false:=by rw[beq_eq_false_iff_ne];omega
  rw[e0]
  simp only[Bool.false_or]
  by_cases h1:w > 1073741824
  ·rw[decide_eq_true h1];simp
  ·rw[decide_eq_false h1]
   simp only[cond_false]
   rcases A5 h (w:=w) (by omega) (by omega)with⟨v,e1,e2⟩ | ⟨e1,e2⟩
   ·rw[e1,e2];simp
   ·rw[e1,e2];simp
section
variable {d:District}{s1:List Fault×WM×UM×Int}{k r:Nat}{u:UM}{F:List Fault}{w:WM}
theorem FM (hu:aK .timetableSlot .bool u (sl s1.2.2.2 k)=true):aA d s1 k (u,F,w)=.inr (cW .timetableSlot .bool u (sl (rch d s1.2.2.2).up (IntKind.i64.wrap ((k:Int) - (rch d s1.2.2.2).delay))) true,F,w):=by
 unfold aA
 unfold sl at hu ⊢
 simp only[hu,cond_true]
theorem Ib (hu:aK .timetableSlot .bool u (sl s1.2.2.2 k)=false)(hn:aK .timetableSlot .int w (sl s1.2.2.2 k)≠0)
  (hb:(ak (rch d s1.2.2.2) (aK .timetableSlot .int w (sl s1.2.2.2 k))).2=false∨(k:Int) < (rch d s1.2.2.2).delay):
  aA d s1 k (u,F,w)=.inr (cW .timetableSlot .bool u (sl (rch d s1.2.2.2).up (IntKind.i64.wrap ((k:Int) - (rch d s1.2.2.2).delay))) (aK .timetableSlot .bool u (sl (rch d s1.2.2.2).up (IntKind.i64.wrap ((k:Int) - (rch d s1.2.2.2).delay))) || !(ak (rch d s1.2.2.2) (aK .timetableSlot .int w (sl s1.2.2.2 k))).2),F++[ltF k s1.2.2.2 (aK .timetableSlot .int w (sl s1.2.2.2 k))],w):=by
 unfold aA ltF
 unfold sl at hu hn hb ⊢
 simp only[hu,cond_false]
 generalize hq:aK .timetableSlot .int w ({ index:=s1.2.2.2,hour:=(k:Int)}:TimetableSlot)=n at hn hb ⊢
 have h0:(n==0)=false:=by simpa using hn
 rw[h0,cond_false]
 by_cases hm:n≤1073741824
 ·have hri:(ak (rch d s1.2.2.2) n).2=(bv (d.reaches.getD (Int.toNat s1.2.2.2) (default:Reach)) n).2.1:=by
   unfold ak
   have h1:((n==0) ||decide (n > 1073741824))=false:=by rw[h0,Bool.false_or,decide_eq_false_iff_not];exact Int.not_lt.2 hm
   rw[h1,cond_false]
   cases hN:(bv (d.reaches.getD (Int.toNat s1.2.2.2) (default:Reach)) n).2.1 with
   |false=>rfl
   |true=>rfl
  rw[hri]at hb ⊢
  rw[decide_eq_true hm,cond_true]
  have h2:((!(bv (d.reaches.getD (Int.toNat s1.2.2.2) (default:Reach)) n).2.1) ||(decide ((k:Int) < (d.reaches.getD (Int.toNat s1.2.2.2) (default:Reach)).delay)))=true:=by
   rcases hb with hb|hb
   ·rw[hb];rfl
   ·rw[decide_eq_true hb,Bool.or_true]
  rw[h2,cond_true]
 ·have hri:(ak (rch d s1.2.2.2) n).2=false:=by
   unfold ak
   have h1:((n==0) ||decide (n > 1073741824))=true:=by rw[h0,Bool.false_or,decide_eq_true_eq];exact Int.not_le.1 hm
   rw[h1,cond_true]
   exact h0
  rw[hri]
  rw[decide_eq_false hm,cond_false]
  rw[Bool.not_false,Bool.true_or,cond_true]
def wv (w:WM)(a b:Int):Int:=aK .timetableSlot .int w (sl a b)
def uv (u:UM)(a b:Int):Bool:=aK .timetableSlot .bool u (sl a b)
theorem Cg {a b x y:Int}:sl x y=sl a b↔x=a∧y=b:=by
 unfold sl
 simp only[TimetableSlot.mk.injEq]
theorem pM (w:WM)(p q v a b:Int):wv (cW .timetableSlot .int w (sl p q) v) a b=if a=p∧b=q then v else wv w a b:=by
 unfold wv
 rw[g7]
 by_cases h:a=p∧b=q
 ·rw[if_pos h,if_pos (Cg.2 h)]
 ·rw[if_neg h,if_neg (fun e=>h (Cg.1 e))]
theorem KX (u:UM)(p q:Int)(v:Bool)(a b:Int):uv (cW .timetableSlot .bool u (sl p q) v) a b=if a=p∧b=q then v else uv u a b:=by
 unfold uv
 rw[FL]
 by_cases h:a=p∧b=q
 ·rw[if_pos h,if_pos (Cg.2 h)]
 ·rw[if_neg h,if_neg (fun e=>h (Cg.1 e))]
theorem Qi (hs:s1.2.2.2=(r:Int))(hw:IntKind.i64.wrap ((k:Int) - (rch d r).delay)=(k:Int) - (rch d r).delay)(hu:uv u r k=true):aA d s1 k (u,F,w)=.inr (cW .timetableSlot .bool u (sl (rch d r).up ((k:Int) - (rch d r).delay)) true,F,w):=by
 have e:=FM (d:=d) (s1:=s1) (F:=F) (w:=w) (u:=u) (k:=k) (by rw[hs];exact hu)
 rw[hs,hw]at e;exact e
theorem Qj (hs:s1.2.2.2=(r:Int))(hu:uv u r k=false)(hn:wv w r k=0):aA d s1 k (u,F,w)=.inr (u,F,w):=
 vS (by rw[hs];exact hu) (by rw[hs];exact hn)
theorem Uj (hs:s1.2.2.2=(r:Int))(hw:IntKind.i64.wrap ((k:Int) - (rch d r).delay)=(k:Int) - (rch d r).delay)(hu:uv u r k=false)(hn:wv w r k≠0)(hb:(ak (rch d r) (wv w r k)).2=false∨(k:Int) < (rch d r).delay):
  aA d s1 k (u,F,w)=.inr (cW .timetableSlot .bool u (sl (rch d r).up ((k:Int) - (rch d r).delay)) (uv u (rch d r).up ((k:Int) - (rch d r).delay) || !(ak (rch d r) (wv w r k)).2),F++[ltF k r (wv w r k)],w):=by
 have e:=Ib (d:=d) (s1:=s1) (F:=F) (w:=w) (u:=u) (k:=k) (by rw[hs];exact hu) (by rw[hs];exact hn) (by rw[hs];exact hb)
 rw[hs,hw]at e;exact e
theorem Qk (hs:s1.2.2.2=(r:Int))(hw:IntKind.i64.wrap ((k:Int) - (rch d r).delay)=(k:Int) - (rch d r).delay)(hu:uv u r k=false)(hn:wv w r k≠0)(hb:(ak (rch d r) (wv w r k)).2=true)(hk:¬ (k:Int) < (rch d r).delay):
  aA d s1 k (u,F,w)=.inr (u,F,cW .timetableSlot .int w (sl (rch d r).up ((k:Int) - (rch d r).delay)) (IntKind.i64.wrap (wv w (rch d r).up ((k:Int) - (rch d r).delay)+(ak (rch d r) (wv w r k)).1))):=by
 have e:=vT (d:=d) (s1:=s1) (F:=F) (w:=w) (u:=u) (k:=k) (by rw[hs];exact hu) (by rw[hs];exact hn) (by rw[hs];exact hb) (by rw[hs];exact hk)
 rw[hs,hw]at e;exact e
structure TB (d:District)(g:List (List Int))(u:UM)(w:WM)(B:Int):Prop where
 len:g.length=d.reaches.length
 row:∀ a:Nat,a<d.reaches.length→(g.getD a []).length=d.hours.toNat
 cel:∀ a b:Nat,a<d.reaches.length→b<d.hours.toNat→cell g a b=if uv u a b=true then -1 else wv w a b
 lo:∀ a b:Int,0≤wv w a b
 hi:∀ a b:Int,wv w a b≤B
variable {g:List (List Int)}{B:Int}
theorem TB.far (E:TB d g u w B){p q:Int}(h:p<0∨q<0)(b:Bool):TB d g (cW .timetableSlot .bool u (sl p q) b) w B:=
 ⟨E.len,E.row,fun a c h1 h2=>(by rw[E.cel a c h1 h2,KX,if_neg (show ¬ ((a:Int)=p∧(c:Int)=q) by omega)]),E.lo,E.hi⟩
theorem TB.farW (E:TB d g u w B){p q:Int}(h:p<0∨q<0){v:Int}(v0:0≤v){B':Int}(v1:v≤B')(hB:B≤B'):TB d g u (cW .timetableSlot .int w (sl p q) v) B':=
 ⟨E.len,E.row,fun a c h1 h2=>(by rw[E.cel a c h1 h2,pM,if_neg (show ¬ ((a:Int)=p∧(c:Int)=q) by omega)]),
  fun a c=>(by rw[pM];have:=E.lo a c;split <;>omega),fun a c=>(by rw[pM];have:=E.hi a c;split <;>omega)⟩
theorem Ba (h1:g.length=d.reaches.length)(h2:∀ a:Nat,a<d.reaches.length→(g.getD a []).length=d.hours.toNat){p q:Nat}(hp:p<d.reaches.length)(hq:q<d.hours.toNat)(v:Int)(a b:Nat):
  cell (g.set p ((g.getD p []).set q v)) a b=if a=p∧b=q then v else cell g a b:=by
 unfold cell
 rw[iv _ _ _ _ _ (by rw[h1];exact hp)]
 by_cases e:a=p
 ·rw[if_pos e,iv _ _ _ _ _ (by rw[h2 p hp];exact hq)]
  by_cases e2:b=q
  ·rw[if_pos e2,if_pos ⟨e,e2⟩]
  ·rw[if_neg e2,if_neg (fun h=>e2 h.2),e]
 ·rw[if_neg e,if_neg (fun h=>e h.1)]
theorem Eb (h1:g.length=d.reaches.length)(h2:∀ a:Nat,a<d.reaches.length→(g.getD a []).length=d.hours.toNat){p q:Nat}(hp:p<d.reaches.length)(v:Int)(a:Nat)(ha:a<d.reaches.length):
  ((g.set p ((g.getD p []).set q v)).getD a []).length=d.hours.toNat:=by
 rw[iv _ _ _ _ _ (by rw[h1];exact hp)]
 split
 ·rw[List.length_set];exact h2 p hp
 ·exact h2 a ha
theorem TB.bad (E:TB d g u w B){p q:Nat}(hp:p<d.reaches.length)(hq:q<d.hours.toNat):TB d (g.set p ((g.getD p []).set q (-1))) (cW .timetableSlot .bool u (sl p q) true) w B:=by
 refine⟨by rw[List.length_set];exact E.len,fun a ha=>Eb (q:=q) E.len E.row hp _ a ha,fun a b ha hb=>?_,E.lo,E.hi⟩
 rw[Ba E.len E.row hp hq,KX]
 by_cases e:a=p∧b=q
 ·rw[if_pos e,if_pos (show(a:Int)=p∧(b:Int)=q by omega),if_pos rfl]
 ·rw[if_neg e,if_neg (show ¬ ((a:Int)=p∧(b:Int)=q) by omega)]
  exact E.cel a b ha hb
theorem TB.mono (E:TB d g u w B){B':Int}(h:B≤B'):TB d g u w B':=⟨E.len,E.row,E.cel,E.lo,fun a b=>Int.le_trans (E.hi a b) h⟩
theorem TB.good (E:TB d g u w B){p q:Nat}(hp:p<d.reaches.length)(hq:q<d.hours.toNat){n B':Int}(n0:0≤n)(hB:B+n≤B')(hx:cell g p q≥0):
  TB d (g.set p ((g.getD p []).set q (cell g p q+n))) u (cW .timetableSlot .int w (sl p q) (wv w p q+n)) B':=by
 have hc:=E.cel p q hp hq
 have l0:=E.lo p q
 have l1:=E.hi p q
 refine⟨by rw[List.length_set];exact E.len,fun a ha=>Eb (q:=q) E.len E.row hp _ a ha,fun a b ha hb=>?_,fun a b=>?_,fun a b=>?_⟩
 ·rw[Ba E.len E.row hp hq,pM]
  by_cases e:a=p∧b=q
  ·obtain⟨rfl,rfl⟩:=e
   rw[if_pos (show a=a∧b=b from⟨rfl,rfl⟩),if_pos (show(a:Int)=a∧(b:Int)=b from⟨rfl,rfl⟩)]
   by_cases hu:uv u a b=true
   ·rw[if_pos hu]at hc;omega
   ·rw[if_neg hu]at hc ⊢;rw[hc]
  ·rw[if_neg e,if_neg (show ¬ ((a:Int)=p∧(b:Int)=q) by omega)]
   exact E.cel a b ha hb
 ·rw[pM];have:=E.lo a b;split <;>omega
 ·rw[pM];have:=E.hi a b;split <;>omega
theorem TB.hid (E:TB d g u w B){p q:Nat}(hp:p<d.reaches.length)(hq:q<d.hours.toNat){n B':Int}(n0:0≤n)(hB:B+n≤B')(hx:¬cell g p q≥0):
  TB d g u (cW .timetableSlot .int w (sl p q) (wv w p q+n)) B':=by
 have hc:=E.cel p q hp hq
 have l0:=E.lo p q
 have l1:=E.hi p q
 refine⟨E.len,E.row,fun a b ha hb=>?_,fun a b=>?_,fun a b=>?_⟩
 ·rw[pM]
  by_cases e:a=p∧b=q
  ·obtain⟨rfl,rfl⟩:=e
   rw[if_pos (show(a:Int)=a∧(b:Int)=b from⟨rfl,rfl⟩)]
   by_cases hu:uv u a b=true
   ·rw[if_pos hu]at hc ⊢;exact hc
   ·rw[if_neg hu]at hc;omega
  ·rw[if_neg (show ¬ ((a:Int)=p∧(b:Int)=q) by omega)]
   exact E.cel a b ha hb
 ·rw[pM];have:=E.lo a b;split <;>omega
 ·rw[pM];have:=E.hi a b;split <;>omega
def qi (d:District)(r k:Nat)(g:List (List Int))(F:List Fault)(ok:Bool)(n:Int):Empty⊕(List Fault×List (List Int)):=
 bif(((r:Int) ==0) ||(decide ((k:Int) < (rch d r).delay)))then .inr (F,g)
 else bif(!ok)then .inr (F,g.set (rch d r).up.toNat ((g.getD (rch d r).up.toNat []).set (IntKind.i64.wrap ((k:Int) - (rch d r).delay)).toNat (-1)))
 else bif decide (cell g (rch d r).up.toNat (IntKind.i64.wrap ((k:Int) - (rch d r).delay)).toNat≥0)then .inr (F,g.set (rch d r).up.toNat ((g.getD (rch d r).up.toNat []).set (IntKind.i64.wrap ((k:Int) - (rch d r).delay)).toNat (IntKind.i64.wrap (cell g (rch d r).up.toNat (IntKind.i64.wrap ((k:Int) - (rch d r).delay)).toNat+n))))
 else .inr (F,g)
variable {s2:List (List Int)×List Fault×Int}
theorem Nm (hs:s2.2.2=(r:Int)):eY d s2 k (F,g)=
  (bif(cell g r k==0)then .inr (F,g)else
   bif decide (cell g r k > 0)then
   (bif((!(bG (rch d r) (cell g r k)).2) ||(decide ((k:Int) < (rch d r).delay)))then qi d r k g (F++[ltF k r (cell g r k)]) (bG (rch d r) (cell g r k)).2 (bG (rch d r) (cell g r k)).1
    else qi d r k g F (bG (rch d r) (cell g r k)).2 (bG (rch d r) (cell g r k)).1)
   else qi d r k g F (decide (cell g r k > 0)) 0):=by
 unfold eY qi ltF cell
 rw[hs]
 rfl
theorem wb (F:List Fault)(ok:Bool)(n:Int)(h:r=0∨(k:Int) < (rch d r).delay):qi d r k g F ok n=.inr (F,g):=by
 unfold qi
 have:(((r:Int) ==0) ||(decide ((k:Int) < (rch d r).delay)))=true:=by
  rw[Bool.or_eq_true,beq_iff_eq,decide_eq_true_eq];omega
 rw[this];rfl
theorem Ec (F:List Fault)(n:Int)(h:¬ (r=0∨(k:Int) < (rch d r).delay)):qi d r k g F false n=.inr (F,g.set (rch d r).up.toNat ((g.getD (rch d r).up.toNat []).set (IntKind.i64.wrap ((k:Int) - (rch d r).delay)).toNat (-1))):=by
 unfold qi
 have:(((r:Int) ==0) ||(decide ((k:Int) < (rch d r).delay)))=false:=by
  rw[Bool.or_eq_false_iff,beq_eq_false_iff_ne,decide_eq_false_iff_not];omega
 rw[this];rfl
theorem Ic (F:List Fault)(n:Int)(h:¬ (r=0∨(k:Int) < (rch d r).delay))(hc:cell g (rch d r).up.toNat (IntKind.i64.wrap ((k:Int) - (rch d r).delay)).toNat≥0):qi d r k g F true n=.inr (F,g.set (rch d r).up.toNat ((g.getD (rch d r).up.toNat []).set (IntKind.i64.wrap ((k:Int) - (rch d r).delay)).toNat (IntKind.i64.wrap (cell g (rch d r).up.toNat (IntKind.i64.wrap ((k:Int) - (rch d r).delay)).toNat+n)))):=by
 unfold qi
 have:(((r:Int) ==0) ||(decide ((k:Int) < (rch d r).delay)))=false:=by
  rw[Bool.or_eq_false_iff,beq_eq_false_iff_ne,decide_eq_false_iff_not];omega
 rw[this,decide_eq_true hc];rfl
theorem KY (F:List Fault)(n:Int)(h:¬ (r=0∨(k:Int) < (rch d r).delay))(hc:¬cell g (rch d r).up.toNat (IntKind.i64.wrap ((k:Int) - (rch d r).delay)).toNat≥0):qi d r k g F true n=.inr (F,g):=by
 unfold qi
 have:(((r:Int) ==0) ||(decide ((k:Int) < (rch d r).delay)))=false:=by
  rw[Bool.or_eq_false_iff,beq_eq_false_iff_ne,decide_eq_false_iff_not];omega
 rw[this,decide_eq_false hc];rfl
theorem KZ (hr:Right1 d)(hrl:r<d.reaches.length)(h:r≠0):0≤(rch d r).up∧(rch d r).up< (r:Int):=by
 have hx:=(FH (r:Int) (rch d r)).1 (hr.reach r hrl)
 omega
theorem Ql (hr:Right1 d)(hrl:r<d.reaches.length)(h:r=0):(rch d r).up= -1:=by
 have hx:=(FH (r:Int) (rch d r)).1 (hr.reach r hrl)
 omega
theorem Id (hr:Right1 d)(hrl:r<d.reaches.length)(hk:k<d.hours.toNat)(hs1:s1.2.2.2=(r:Int))(hs2:s2.2.2=(r:Int))(E:TB d g u w B)(hB:B≤2305843009213693952)(hB0:0≤B):
  ∃ u' T w' g',aA d s1 k (u,F,w)=.inr (u',F++T,w')∧eY d s2 k (F,g)=.inr (F++T,g')∧TB d g' u' w' (B+1073741824)∧T.length≤1:=by
 have hH:=hr.hours;have hH1:=hr.hours1
 have hdy:=kS hr hrl
 have hpre:aU (r:Int) (rch d r)=true:=hr.reach r hrl
 have hw:IntKind.i64.wrap ((k:Int) - (rch d r).delay)=(k:Int) - (rch d r).delay:=bu (by omega) (by omega)
 have hc:=E.cel r k hrl hk
 have l0:=E.lo r k
 have hupF:r=0∨(k:Int) < (rch d r).delay→(rch d r).up<0∨(k:Int) - (rch d r).delay<0:=fun h=>by
  rcases h with h|h
  ·have:=Ql hr hrl h;omega
  ·omega
 have hupT:¬ (r=0∨(k:Int) < (rch d r).delay)→∃ p q:Nat,p<d.reaches.length∧q<d.hours.toNat∧(rch d r).up=(p:Int)∧(k:Int) - (rch d r).delay=(q:Int)∧(rch d r).up.toNat=p∧((k:Int) - (rch d r).delay).toNat=q:=fun h=>by
  have:=KZ hr hrl (fun e=>h (.inl e))
  exact⟨(rch d r).up.toNat,((k:Int) - (rch d r).delay).toNat,by omega,by omega,by omega,by omega,rfl,rfl⟩
 rw[Nm hs2]
 by_cases hu:uv u r k=true
 ·rw[if_pos hu]at hc
  have e1:=Qi (d:=d) (F:=F) (w:=w) hs1 hw hu
  rw[hc,show((-1:Int) ==0)=false from rfl,show decide ((-1:Int) > 0)=false from rfl]
  simp only[cond_false]
  by_cases hz:r=0∨(k:Int) < (rch d r).delay
  ·rw[wb _ _ _ hz]
   exact⟨_,[],w,g,by rw[e1,List.append_nil],by rw[List.append_nil],(E.far (hupF hz) true).mono (by omega),by simp⟩
  ·rw[Ec _ _ hz,hw]
   obtain⟨p,q,hp,hq,e2,e3,e4,e5⟩:=hupT hz
   rw[e4,e5]
   rw[e2,e3]at e1
   exact⟨_,[],w,_,by rw[e1,List.append_nil],by rw[List.append_nil],(E.bad hp hq).mono (by omega),by simp⟩
 ·have hu':uv u r k=false:=by simpa using hu
  rw[if_neg hu]at hc
  by_cases hn:wv w r k=0
  ·have e1:=Qj (d:=d) (F:=F) hs1 hu' hn
   rw[hc,hn]
   exact⟨u,[],w,g,by rw[e1,List.append_nil],by rw[List.append_nil];rfl,E.mono (by omega),by simp⟩
  ·have hc1:1≤cell g r k:=by omega
   obtain⟨i1,i2,_⟩:=Ea hpre hc1
   have hio:=r8 (i:=(r:Int)) (by omega) hpre hc1
   rw[show(cell g r k==0)=false by rw[beq_eq_false_iff_ne];omega,decide_eq_true (p:=cell g r k > 0) (by omega)]
   simp only[cond_false,cond_true]
   rw[i1]
   by_cases hb:(ak (rch d r) (cell g r k)).2=false∨(k:Int) < (rch d r).delay
   ·have e1:=Uj (d:=d) (F:=F) hs1 hw hu' hn (by rw[←hc];exact hb)
    rw[←hc]at e1
    have hbb:((!(ak (rch d r) (cell g r k)).2) ||(decide ((k:Int) < (rch d r).delay)))=true:=by
     rcases hb with hb|hb
     ·rw[hb];rfl
     ·rw[decide_eq_true hb,Bool.or_true]
    rw[hbb,cond_true]
    by_cases hz:r=0∨(k:Int) < (rch d r).delay
    ·rw[wb _ _ _ hz]
     exact⟨_,_,w,g,e1,rfl,(E.far (hupF hz) _).mono (by omega),by simp⟩
    ·have hb':(ak (rch d r) (cell g r k)).2=false:=hb.resolve_right fun h=>hz (.inr h)
     rw[hb',Ec _ _ hz,hw]
     obtain⟨p,q,hp,hq,e2,e3,e4,e5⟩:=hupT hz
     rw[e4,e5]
     rw[e2,e3,hb',Bool.not_false,Bool.or_true]at e1
     exact⟨_,_,w,_,e1,rfl,(E.bad hp hq).mono (by omega),by simp⟩
   ·have hg:(ak (rch d r) (cell g r k)).2=true:=by
     cases q:(ak (rch d r) (cell g r k)).2 with
     |true=>rfl
     |false=>exact absurd (.inl q) hb
    have hkd:¬ (k:Int) < (rch d r).delay:=fun h=>hb (.inr h)
    have e1:=Qk (d:=d) (F:=F) hs1 hw hu' hn (by rw[←hc];exact hg) hkd
    rw[←hc]at e1
    rw[hg,decide_eq_false hkd,i2 hg]
    simp only[Bool.not_true,Bool.or_self,cond_false]
    obtain⟨v,v1,v2,v3,_⟩:=hio.resolve_right fun h=>by rw[hg]at h;exact absurd h.1 (by simp)
    have l0':=E.lo (rch d r).up ((k:Int) - (rch d r).delay)
    have l1':=E.hi (rch d r).up ((k:Int) - (rch d r).delay)
    rw[v1]at e1 ⊢
    simp only at e1 ⊢
    rw[bu (by omega) (by omega)]at e1
    by_cases hz:r=0∨(k:Int) < (rch d r).delay
    ·rw[wb _ _ _ hz]
     exact⟨u,[],_,g,by rw[e1,List.append_nil],by rw[List.append_nil],E.farW (hupF hz) (by omega) (by omega) (by omega),by simp⟩
    ·obtain⟨p,q,hp,hq,e2,e3,e4,e5⟩:=hupT hz
     have hcp:=E.cel p q hp hq
     rw[e2,e3]at e1 l0' l1'
     by_cases hx:cell g p q≥0
     ·rw[Ic _ _ hz (by rw[hw,e4,e5];exact hx),hw,e4,e5]
      have:cell g p q=wv w p q:=by
       by_cases hu2:uv u p q=true
       ·rw[if_pos hu2]at hcp;omega
       ·rw[if_neg hu2]at hcp;exact hcp
      rw[bu (by omega) (by omega)]
      exact⟨u,[],_,_,by rw[e1,List.append_nil],by rw[List.append_nil],E.good hp hq (by omega) (by omega) hx,by simp⟩
     ·rw[KY _ _ hz (by rw[hw,e4,e5];exact hx)]
      exact⟨u,[],_,g,by rw[e1,List.append_nil],by rw[List.append_nil],E.hid hp hq (by omega) (by omega) hx,by simp⟩
end
end Go.Sx
end
section
namespace Go.Sx
open Go.Proofs Go.Shelf Go.Sort Go.Lib
set_option maxRecDepth 100000
section
variable {d:District}{s1:List Fault×WM×UM×Int}{r:Nat}{s2:List (List Int)×List Fault×Int}
theorem Qm {k:Nat}{u:UM}{F:List Fault}{w:WM}{g:List (List Int)}{B:Int}(hr:Right1 d)(hrl:r<d.reaches.length)(hk:k<d.hours.toNat)(hs2:s2.2.2=(r:Int))(E:TB d g u w B)(hF:F.length≤1000000):ft d s2 k (F,g):=by
 have hH:=hr.hours;have hH1:=hr.hours1
 have hdy:=kS hr hrl
 have hpre:aU (r:Int) (rch d r)=true:=hr.reach r hrl
 have hw:IntKind.i64.wrap ((k:Int) - (rch d r).delay)=(k:Int) - (rch d r).delay:=bu (by omega) (by omega)
 have a1:(0:Int)≤(r:Int)∧(r:Int) < (g.length:Int):=by rw[E.len];omega
 have a2:(0:Int)≤(k:Int)∧(k:Int) < ((g.getD r []).length:Int):=by rw[E.row r hrl];omega
 have key:(((r:Int) ==0) ||(decide ((k:Int) < (rch d r).delay)))=false→(0≤(rch d r).up∧(rch d r).up< (g.length:Int))∧(0≤(k:Int) - (rch d r).delay∧(k:Int) - (rch d r).delay< ((g.getD (rch d r).up.toNat []).length:Int)):=by
  intro h
  rw[Bool.or_eq_false_iff,beq_eq_false_iff_ne,decide_eq_false_iff_not]at h
  have hu:=KZ hr hrl (fun e=>h.1 (by omega))
  rw[E.len,E.row (rch d r).up.toNat (by omega)]
  omega
 unfold ft
 rw[hs2]
 simp only[Int.toNat_natCast]
 simp only[show IntKind.i64.wrap ((k:Int) - (d.reaches.getD r default).delay)=(k:Int) - (d.reaches.getD r default).delay from hw]
 refine⟨a1,a2,fun _=>⟨a1,a2,⟨fun hpos=>⟨a1,a2,?_,⟨fun _=>⟨a1,a2,?_,fun _ hq=>⟨fun _=>key hq,fun _=>⟨(key hq).1,(key hq).2,fun _=>⟨(key hq).1,(key hq).1,(key hq).2,(key hq).2⟩⟩⟩⟩,fun _ hq=>⟨fun _=>key hq,fun _=>⟨(key hq).1,(key hq).2,fun _=>⟨(key hq).1,(key hq).1,(key hq).2,(key hq).2⟩⟩⟩⟩⟩,fun _ hq=>⟨fun _=>key hq,fun _=>⟨(key hq).1,(key hq).2,fun _=>⟨(key hq).1,(key hq).1,(key hq).2,(key hq).2⟩⟩⟩⟩⟩⟩
 ·simp only[decide_eq_true_eq]at hpos
  exact(Ea hpre (by omega)).2.2
 ·rw[List.length_append]
  unfold eD
  simp only[List.length_cons,List.length_nil]
  omega
theorem Ed (hr:Right1 d)(hrl:r<d.reaches.length)(hs1:s1.2.2.2=(r:Int))(hs2:s2.2.2=(r:Int)):∀ (n k:Nat) (u:UM) (F:List Fault) (w:WM) (g:List (List Int)) (B:Int),k+n=d.hours.toNat→TB d g u w B→0≤B→B+n*1073741824≤2305843009213693952→F.length+n≤1000000→
  ∃ u' F' w' g',aw (aA d s1) n k (u,F,w)=.inr (u',F',w')∧aw (eY d s2) n k (F,g)=.inr (F',g')∧TB d g' u' w' (B+n*1073741824)∧F'.length≤F.length+n∧okI (eY d s2) (ft d s2) n k (F,g)
 |0,k,u,F,w,g,B,hk,E,_,_,_=>⟨u,F,w,g,rfl,rfl,E.mono (by omega),Nat.le_refl _,trivial⟩
 |n+1,k,u,F,w,g,B,hk,E,hB0,hB,hF=>by
  obtain⟨u1,T,w1,g1,e1,e2,E1,hT⟩:=Id (F:=F) hr hrl (by omega:k<d.hours.toNat) hs1 hs2 E (by omega) hB0
  have hl:(F++T).length≤F.length+1:=by rw[List.length_append];omega
  obtain⟨u',F',w',g',e3,e4,E2,hl2,ok⟩:=Ed hr hrl hs1 hs2 n (k+1) u1 (F++T) w1 g1 (B+1073741824) (by omega) E1 (by omega) (by omega) (by omega)
  refine⟨u',F',w',g',by unfold aw;rw[e1];exact e3,by unfold aw;rw[e2];exact e4,E2.mono (by omega),by omega,Qm hr hrl (by omega) hs2 E (by omega),fun s' e=>?_⟩
  rw[e2]at e;cases e;exact ok
theorem Bb (hr:Right1 d):∀ (m n j:Nat) (F:List Fault) (w:WM) (u:UM) (g:List (List Int)) (B:Int) (N:Nat),N=m*d.hours.toNat→m<n→m≤d.reaches.length→TB d g u w B→0≤B→B+N*1073741824≤2305843009213693952→F.length+N≤1000000→
  ∃ F',aw (be d) n j (F,w,u,(m:Int) - 1)=.inl F'∧aw (dM d) n j (g,F,(m:Int) - 1)=.inl F'∧okI (dM d) (jm d) n j (g,F,(m:Int) - 1)∧F'.length≤F.length+N
 |m,0,_,_,_,_,_,_,_,_,h,_,_,_,_,_=>absurd h (Nat.not_lt_zero _)
 |0,n+1,j,F,w,u,g,B,N,hN,_,_,E,_,_,_=>by
  refine⟨F,?_,?_,⟨fun q=>?_,fun s' e=>?_⟩,by omega⟩
  ·simp only[aw];rw[FD (by omega)]
  ·simp only[aw];unfold dM;simp only;rw[decide_eq_false (by omega),cond_false]
  ·simp only[decide_eq_true_eq]at q;omega
  ·unfold dM at e;simp only at e;rw[decide_eq_false (by omega),cond_false]at e;cases e
 |m+1,n+1,j,F,w,u,g,B,N,hN,hmn,hm,E,hB0,hB,hF=>by
  have hH:=hr.hours;have hR:=hr.reaches
  have hNN:m*d.hours.toNat+d.hours.toNat=N:=by rw[hN,Nat.succ_mul]
  have hm1:((m+1:Nat):Int) - 1=(m:Int):=by omega
  rw[hm1]
  obtain⟨u',F',w',g',e1,e2,E1,hl,ok⟩:=Ed (s1:=(F,w,u,(m:Int))) (s2:=(g,F,(m:Int))) hr (by omega:m<d.reaches.length) rfl rfl d.hours.toNat 0 u F w g B (by omega) E hB0 (by omega) (by omega)
  have hst:dM d j (g,F,(m:Int))=.inr (g',F',(m:Int) - 1):=by
   unfold dM
   simp only
   rw[decide_eq_true (by omega),cond_true,e2]
   simp only
   rw[bu (by omega) (by omega)]
  obtain⟨F2,e3,e4,ok2,hl2⟩:=Bb hr m n (j+1) F' w' u' g' (B+d.hours.toNat*1073741824) (m*d.hours.toNat) rfl (by omega) (by omega) E1 (by omega) (by omega) (by omega)
  refine⟨F2,?_,?_,⟨fun _=>⟨⟨(by show(0:Int)≤(m:Int);omega),(by show(m:Int) <_;omega)⟩,by omega,ok⟩,fun s' e=>?_⟩,by omega⟩
  ·simp only[aw]
   rw[DK (by omega) (by omega) e1]
   exact e3
  ·simp only[aw]
   rw[hst]
   exact e4
  ·rw[hst]at e;cases e;exact ok2
theorem fill (hr:Right1 d):∀ (n j i:Nat) (g:List (List Int)),i≤d.reaches.length→d.reaches.length - i<n→g.length=d.reaches.length→(∀ a,a<i→g.getD a []=List.replicate d.hours.toNat 0)→
  ∃ g',aw (cT d) n j (g,(i:Int))=.inl g'∧g'.length=d.reaches.length∧(∀ a,a<d.reaches.length→g'.getD a []=List.replicate d.hours.toNat 0)∧okI (cT d) (jl d) n j (g,(i:Int))
 |0,_,_,_,_,h,_,_=>absurd h (Nat.not_lt_zero _)
 |n+1,j,i,g,hi,hn,hg,ha=>by
  have hH:=hr.hours;have hH1:=hr.hours1;have hR:=hr.reaches
  rcases Nat.lt_or_eq_of_le hi with hi'|rfl
  ·have hst:cT d j (g,(i:Int))=.inr (g.set i (List.replicate d.hours.toNat 0),((i+1:Nat):Int)):=by
    unfold cT
    simp only
    rw[hg,decide_eq_true (by omega),cond_true,bu (by omega) (by omega),Int.toNat_natCast]
    rfl
   obtain⟨g',e,h1,h2,ok⟩:=fill hr n (j+1) (i+1) (g.set i (List.replicate d.hours.toNat 0)) hi' (by omega) (by rw[List.length_set];exact hg) fun a h=>by
    rw[iv _ _ _ _ _ (by omega)]
    by_cases q:a=i
    ·rw[if_pos q]
    ·rw[if_neg q];exact ha a (by omega)
   refine⟨g',by unfold aw;rw[hst];exact e,h1,h2,fun _ _=>⟨⟨rfl,by omega,by unfold eD;omega⟩,fun _=>by rw[hg];omega⟩,fun s' e'=>?_⟩
   rw[hst]at e';cases e';exact ok
  ·have hst:cT d j (g,(d.reaches.length:Int))=.inl g:=by
    unfold cT
    simp only
    rw[hg,decide_eq_false (by omega),cond_false]
   refine⟨g,by unfold aw;rw[hst],hg,ha,fun _ q=>?_,fun s' e'=>?_⟩
   ·simp only[decide_eq_true_eq,hg]at q;omega
   ·rw[hst]at e';cases e'
theorem sums (c:List Claim){out:List Order}(hr:Right1 d)(ho:Orders1 d out)(hall:∀ x∈out,x.outlet=true)(he:ay d c=out):∀ (n i:Nat) (g:List (List Int)) (w:WM),i+n=out.length→TB d g [] w (i*1073741824)→
  ∃ g' w',aw (ef d c) n i g=.inr g'∧aw (b9 out d) n i w=.inr w'∧TB d g' [] w' (out.length*1073741824)∧okI (ef d c) (gG d c) n i g
 |0,i,g,w,hi,E=>⟨g,w,rfl,rfl,E.mono (by omega),trivial⟩
 |n+1,i,g,w,hi,E=>by
  have hH:=hr.hours;have hH1:=hr.hours1
  have hi':i<out.length:=by omega
  have hlen:=ho.len
  have hx:=ho.one i hi'
  have h0:=hx.hour0;have h1:=hx.hour;have h2:=hx.index0;have h3:=hx.litres1;have h4:=hx.litres
  have h5:=hx.farm (hall _ (mZ _ _ hi'))
  have hf:=hr.farm (out.getD i default).index.toNat (by omega)
  obtain⟨p,hp⟩:∃ p:Nat,(d.farms.getD (out.getD i default).index.toNat default).reach=(p:Int):=⟨(d.farms.getD (out.getD i default).index.toNat default).reach.toNat,by omega⟩
  obtain⟨q,hq⟩:∃ q:Nat,(out.getD i default).hour=(q:Int):=⟨(out.getD i default).hour.toNat,by omega⟩
  have hpR:p<d.reaches.length:=by omega
  have hqH:q<d.hours.toNat:=by omega
  have hc:=E.cel p q hpR hqH
  have hu:uv [] (p:Int) (q:Int)=false:=rfl
  rw[if_neg (by rw[hu];simp)]at hc
  have l0:=E.lo p q
  have l1:=E.hi p q
  have s1:ef d c i g=.inr (g.set p ((g.getD p []).set q (cell g p q+(out.getD i default).litres))):=by
   unfold ef
   rw[he,hp,hq]
   simp only[Int.toNat_natCast]
   rw[show(g.getD p []).getD q 0=cell g p q from rfl,bu (by omega) (by omega)]
  have s2:b9 out d i w=.inr (cW .timetableSlot .int w (sl p q) (wv w p q+(out.getD i default).litres)):=by
   unfold b9
   rw[hp,hq]
   show Sum.inr (cW .timetableSlot .int w (sl p q) (IntKind.i64.wrap (wv w p q+(out.getD i default).litres)))=_
   rw[bu (by omega) (by omega)]
  have E':=E.good hpR hqH (n:=(out.getD i default).litres) (B':=((i+1:Nat):Int)*1073741824) (by omega) (by omega) (by omega)
  obtain⟨g',w',e1,e2,E2,ok⟩:=sums c hr ho hall he n (i+1) _ _ (by omega) E'
  refine⟨g',w',by unfold aw;rw[s1];exact e1,by unfold aw;rw[s2];exact e2,E2,?_,fun s' e=>?_⟩
  ·unfold gG
   rw[he,hp,hq]
   simp only[Int.toNat_natCast]
   rw[E.len,E.row p hpR]
   exact fun _=>⟨by omega,by omega,by omega,by omega,by omega⟩
  ·rw[s1]at e;cases e;exact ok
theorem Qn (c:List Claim){out:List Order}(hr:Right1 d)(ho:Orders1 d out)(hall:∀ x∈out,x.outlet=true)(he:ay d c=out)(hep:eP d c):
  lg d c=aR out d∧mV d c∧(aR out d).length≤500000:=by
 have hH:=hr.hours;have hH1:=hr.hours1;have hR:=hr.reaches
 have hlen:=ho.len
 obtain⟨g0,e0,q1,q2,ok0⟩:=fill hr (d.reaches.length+1) 0 0 (List.replicate d.reaches.length []) (Nat.zero_le _) (by omega) List.length_replicate (fun a h=>absurd h (Nat.not_lt_zero _))
 have E0:TB d g0 [] [] ((0:Nat)*1073741824):=⟨q1,fun a h=>by rw[q2 a h,List.length_replicate],fun a b ha hb=>by unfold cell;rw[q2 a ha,zz];rfl,fun a b=>(Int.le_refl 0:(0:Int)≤0),fun a b=>(by show(0:Int)≤_;omega)⟩
 obtain⟨g1,w1,e1,e2,E1,ok1⟩:=sums c hr ho hall he out.length 0 g0 [] (by omega) E0
 have hmul:d.reaches.length*d.hours.toNat≤64*4096:=Nat.mul_le_mul hR (by omega)
 obtain⟨F',e3,e4,ok2,hl⟩:=Bb hr d.reaches.length (d.reaches.length+1) 0 [] w1 [] g1 (out.length*1073741824) (d.reaches.length*d.hours.toNat) rfl (by omega) (Nat.le_refl _) E1 (by omega) (by omega) (by simp only[List.length_nil];omega)
 have hw:IntKind.i64.wrap ((d.reaches.length:Int) - 1)=(d.reaches.length:Int) - 1:=bu (by omega) (by omega)
 have ht:aR out d=F':=by
  unfold aR
  rw[hw]
  simp only[e2,e3]
 rw[show((0:Nat):Int)=0 from rfl]at e0 ok0
 refine⟨?_,fun _=>⟨⟨rfl,by omega,by unfold eD;omega⟩,fun _=>⟨ok0,fun z hz=>(by rw[e0]at hz;cases hz),fun x hx=>?_⟩⟩,?_⟩
 ·rw[ht]
  unfold lg
  rw[e0]
  simp only[he,e1,hw,e4]
 ·rw[e0]at hx;cases hx
  refine⟨hep,by rw[he];exact ok1,fun s1 hs1 _=>?_⟩
  rw[he,e1]at hs1;cases hs1
  rw[hw]
  exact⟨ok2,fun z hz=>by rw[e4]at hz;cases hz⟩
 ·rw[ht]
  simp only[List.length_nil]at hl
  omega
end
theorem Ie (a b:Int):bD [a,b]=if a≠0 then a else b:=by
 rw[pz,AT]
 by_cases h:a=0
 ·rw[if_pos h,if_neg (by simpa using h)]
 ·rw[if_neg h,if_pos h]
theorem FN (f:Fault)(s:F5)(h:s.1=7):(((s.1==0)&&((s.2.1==0)&&((s.2.2.1==0)&&((s.2.2.2.1==0)&&(s.2.2.2.2==0))))) ||(decide ((bD ([(aO f.hour s.2.1),(aO s.2.2.1 f.index)])) <0)))=((decide (f.hour<s.2.1)) ||((f.hour==s.2.1)&&(decide (f.index > s.2.2.1)))):=by
 rw[h,Ie,fw,fw]
 simp only[show((7:Int) ==0)=false from rfl,Bool.false_and,Bool.false_or]
 rw[Bool.eq_iff_iff]
 simp only[Bool.or_eq_true,Bool.and_eq_true,decide_eq_true_eq,beq_iff_eq]
 by_cases h1:f.hour<s.2.1
 ·simp[h1]
 ·by_cases h2:f.hour > s.2.1
  ·simp[h1,h2];omega
  ·have:f.hour=s.2.1:=by omega
   simp only[this,Int.lt_irrefl,if_false,ne_eq,not_true_eq_false,false_or,true_and,gt_iff_lt]
   by_cases h3:s.2.2.1<f.index
   ·simp[h3]
   ·simp[h3]
    split <;>omega
theorem zD (out:List Order)(d:District)(L:List Fault)(hk:∀ f∈L,f.kind=7):∀ (n i:Nat) (s:F5),i+1+n=L.length→s.1=7→∃ s',aw (dA L) n i s=.inr s'∧cF (a7 out d) (L.drop (i+1)) s=.inr s'
 |0,i,s,hi,_=>⟨s,rfl,by rw[List.drop_eq_nil_of_le (by omega)];rfl⟩
 |n+1,i,s,hi,hs=>by
  have hlt:i+1<L.length:=by omega
  rw[List.drop_eq_getElem_cons hlt]
  have hg:L.getD (Int.toNat ((i:Int)+1)) default=L[i+1]:=by
   rw[show Int.toNat ((i:Int)+1)=i+1 by omega];exact cI L default hlt
  have h1:dA L i s=a7 out d L[i+1] s:=by
   unfold dA a7
   rw[hg,FN _ _ hs]
  have h2:∃ s1:F5,a7 out d L[i+1] s=.inr s1∧s1.1=7:=by
   unfold a7
   cases(((s.1==0)&&((s.2.1==0)&&((s.2.2.1==0)&&((s.2.2.2.1==0)&&(s.2.2.2.2==0))))) ||(decide ((bD ([(aO L[i+1].hour s.2.1),(aO s.2.2.1 L[i+1].index)])) <0)))with
   |true=>exact⟨_,rfl,hk _ (List.getElem_mem hlt)⟩
   |false=>exact⟨_,rfl,hs⟩
  obtain⟨s1,e1,hs1⟩:=h2
  obtain⟨s',e2,e3⟩:=zD out d L hk n (i+1) s1 (by omega) hs1
  refine⟨s',?_,?_⟩
  ·unfold aw;rw[h1,e1];exact e2
  ·simp only[cF,e1];exact e3
theorem Nn {out:List Order}{d:District}(hk:∀ f∈aR out d,f.kind=7)(hne:aR out d≠[]):ml (aR out d)=dC out d∧lK (aR out d):=by
 unfold dC
 generalize aR out d=L at hk hne
 cases L with
 |nil=>exact absurd rfl hne
 |cons f L=>
  have h1:a7 out d f (0,0,0,0,0)=.inr (vU f):=by
   unfold a7 vU
   simp only[BEq.rfl,Bool.and_true,Bool.true_or,cond_true]
  have hf:=hk f List.mem_cons_self
  obtain⟨s',e1,e2⟩:=zD out d (f::L) hk L.length 0 (vU f) (by rw[List.length_cons];omega) hf
  rw[List.drop_succ_cons,List.drop_zero]at e2
  refine⟨?_,⟨⟨by omega,by rw[List.length_cons];omega⟩,?_⟩⟩
  ·simp only[cF,h1,e2]
   unfold ml
   rw[show(f::L).length - 1=L.length by rw[List.length_cons];omega]
   have:aw (dA (f::L)) L.length 0 (((f::L).getD 0 (default:Fault)).kind,((f::L).getD 0 (default:Fault)).hour,((f::L).getD 0 (default:Fault)).index,((f::L).getD 0 (default:Fault)).litres,((f::L).getD 0 (default:Fault)).limit)=.inr s':=e1
   rw[this]
  ·refine ja _ _ _ fun j s _ hj _=>?_
   have:((j:Int)+1) < (((f::L).length:Nat):Int):=by omega
   exact⟨⟨by omega,this⟩,fun _=>⟨by omega,this⟩,fun _ _=>⟨by omega,this⟩,fun _=>⟨by omega,this⟩⟩
end Go.Sx
end
section
namespace Go.Sx
open Go.Proofs Go.Shelf Go.Sort Go.Lib
set_option maxRecDepth 100000
theorem iP {α:Type}{cf:α→α→Int}(hO:SWO (ltOf cf)){l m:List α}(hp:m.Perm l)(hs:m.Pairwise fun x y=>ltOf cf x y=true):srt cf l=m:=by
 have h1:(srt cf l).Pairwise fun x y=>(!(ltOf cf y x))=true:=by
  refine List.pairwise_mergeSort (fun a b c h1 h2=>?_) (fun a b=>?_) l
  ·simp only[Bool.not_eq_true']at h1 h2 ⊢
   exact hO.ntrans _ _ _ h2 h1
  ·cases q:ltOf cf b a with
   |false=>rfl
   |true=>
    cases q2:ltOf cf a b with
    |false=>rfl
    |true=>have:=hO.trans _ _ _ q q2;rw[hO.irrefl]at this;cases this
 have h2:m.Pairwise fun x y=>(!(ltOf cf y x))=true:=hs.imp fun {x y} q=>by
  cases q2:ltOf cf y x with
  |false=>rfl
  |true=>have:=hO.trans _ _ _ q q2;rw[hO.irrefl]at this;cases this
 have hpm:(srt cf l).Perm l:=List.mergeSort_perm _ _
 refine List.Perm.eq_of_pairwise (fun a b ha hb q1 q2=>?_) h1 h2 (hpm.trans hp.symm)
 have ha:a∈m:=hp.mem_iff.2 (hpm.mem_iff.1 ha)
 obtain⟨i,hi,rfl⟩:=List.getElem_of_mem ha
 obtain⟨j,hj,rfl⟩:=List.getElem_of_mem hb
 rw[List.pairwise_iff_getElem]at hs
 rcases Nat.lt_trichotomy i j with q|q|q
 ·have:=hs i j hi hj q;rw[this]at q2;cases q2
 ·subst q;rfl
 ·have:=hs j i hj hi q;rw[this]at q1;cases q1
theorem rN {d:District}{c:List Claim}{out l:List Order}{B:List Fault}(h1:bt d c=0)(h2:decide ((IntKind.i64.wrap ((d.reaches.length:Int)*d.hours)) > 1024)=false)(h3:aq c=out)
  (h4:aJ out=false) (h5:am d out=(l,true,0)) (h6:bK l d=B):
  av d c=match B with| [] =>(l,({ kind:=0,hour:=0,index:=0,litres:=0,limit:=0}:Fault),0) |f::_=>([],f,0):=by
 have ha:ag d c=(out,0):=by
  unfold ag
  rw[h1,h2,h3,h4];rfl
 unfold av
 simp only[ha,h5,h6,bne_self_eq_false,cond_false,Bool.not_true]
 cases B <;>rfl
theorem FO {d:District}{c:List Claim}{out:List Order}{f:Fault}(h1:bt d c=0)(h2:decide ((IntKind.i64.wrap ((d.reaches.length:Int)*d.hours)) > 1024)=false)(h3:aq c=out)
  (h4:aJ out=false) (h5:am d out=([],false,0)) (h6:dC out d=f):
  av d c=([],f,0):=by
 have ha:ag d c=(out,0):=by
  unfold ag
  rw[h1,h2,h3,h4];rfl
 unfold av
 simp only[ha,h5,h6,bne_self_eq_false,cond_false,Bool.not_false,cond_true]
abbrev cH (h i n:Int)(o:Bool):Order:= { hour:=h,index:=i,litres:=n,outlet:=o}
theorem ev_a:av aW cN=(fJ,({ kind:=0,hour:=0,index:=0,litres:=0,limit:=0}:Fault),0):=by
 have e1:aq cN=srt ap [cH 4 1 10 true,cH 4 0 7 true,cH 5 0 1 true]:=by kernel_rfl
 rw[iP (m:=[cH 4 0 7 true,cH 4 1 10 true,cH 5 0 1 true]) et (by decide) (by decide)]at e1
 have e2:am aW [cH 4 0 7 true,cH 4 1 10 true,cH 5 0 1 true]=(srt aG [cH 4 0 7 true,cH 4 1 10 true,cH 5 0 1 true,cH 2 0 20 false,cH 3 0 5 false],true,0):=by kernel_rfl
 rw[iP (m:=fJ) pu (by decide) (by decide)]at e2
 exact rN (B:=[]) (by kernel_rfl) (by kernel_rfl) e1 (by kernel_rfl) e2 (by kernel_rfl)
theorem ev_b:av aW bA=([],({ kind:=1,hour:=2,index:=0,litres:=21,limit:=20}:Fault),0):=by
 have e1:aq bA=srt ap [cH 4 1 10 true,cH 4 0 8 true,cH 5 0 1 true]:=by kernel_rfl
 rw[iP (m:=[cH 4 0 8 true,cH 4 1 10 true,cH 5 0 1 true]) et (by decide) (by decide)]at e1
 have e2:am aW [cH 4 0 8 true,cH 4 1 10 true,cH 5 0 1 true]=(srt aG [cH 4 0 8 true,cH 4 1 10 true,cH 5 0 1 true,cH 2 0 21 false,cH 3 0 5 false],true,0):=by kernel_rfl
 rw[iP (m:=[cH 2 0 21 false,cH 3 0 5 false,cH 4 0 8 true,cH 4 1 10 true,cH 5 0 1 true]) pu (by decide) (by decide)]at e2
 exact rN (B:=[{ kind:=1,hour:=2,index:=0,litres:=21,limit:=20}]) (by kernel_rfl) (by kernel_rfl) e1 (by kernel_rfl) e2 (by kernel_rfl)
theorem ev_c:av aW fW=([],({ kind:=7,hour:=1,index:=0,litres:=9,limit:=0}:Fault),0):=by
 have e1:aq fW=srt ap [cH 1 1 9 true]:=by kernel_rfl
 rw[iP (m:=[cH 1 1 9 true]) et (by decide) (by decide)]at e1
 exact FO (by kernel_rfl) (by kernel_rfl) e1 (by kernel_rfl) (by kernel_rfl) (by kernel_rfl)
abbrev clA:Claim:= { right:=1,farm:=1,hour:=4,litres:=10,rank:=1}
abbrev clB:Claim:= { right:=0,farm:=0,hour:=4,litres:=8,rank:=2}
abbrev clC:Claim:= { right:=0,farm:=0,hour:=5,litres:=1,rank:=2}
theorem ev_d:av aW [clA]=([cH 2 0 13 false,cH 4 1 10 true],({ kind:=0,hour:=0,index:=0,litres:=0,limit:=0}:Fault),0):=by
 have e1:aq [clA]=srt ap [cH 4 1 10 true]:=by kernel_rfl
 rw[iP (m:=[cH 4 1 10 true]) et (by decide) (by decide)]at e1
 have e2:am aW [cH 4 1 10 true]=(srt aG [cH 4 1 10 true,cH 2 0 13 false],true,0):=by kernel_rfl
 rw[iP (m:=[cH 2 0 13 false,cH 4 1 10 true]) pu (by decide) (by decide)]at e2
 exact rN (B:=[]) (by kernel_rfl) (by kernel_rfl) e1 (by kernel_rfl) e2 (by kernel_rfl)
theorem ev_e:av aW [clA,clB]=([],({ kind:=1,hour:=2,index:=0,litres:=21,limit:=20}:Fault),0):=by
 have e1:aq [clA,clB]=srt ap [cH 4 1 10 true,cH 4 0 8 true]:=by kernel_rfl
 rw[iP (m:=[cH 4 0 8 true,cH 4 1 10 true]) et (by decide) (by decide)]at e1
 have e2:am aW [cH 4 0 8 true,cH 4 1 10 true]=(srt aG [cH 4 0 8 true,cH 4 1 10 true,cH 2 0 21 false],true,0):=by kernel_rfl
 rw[iP (m:=[cH 2 0 21 false,cH 4 0 8 true,cH 4 1 10 true]) pu (by decide) (by decide)]at e2
 exact rN (B:=[{ kind:=1,hour:=2,index:=0,litres:=21,limit:=20}]) (by kernel_rfl) (by kernel_rfl) e1 (by kernel_rfl) e2 (by kernel_rfl)
theorem ev_f:av aW [clA,clC]=([cH 2 0 13 false,cH 3 0 5 false,cH 4 1 10 true,cH 5 0 1 true],({ kind:=0,hour:=0,index:=0,litres:=0,limit:=0}:Fault),0):=by
 have e1:aq [clA,clC]=srt ap [cH 4 1 10 true,cH 5 0 1 true]:=by kernel_rfl
 rw[iP (m:=[cH 4 1 10 true,cH 5 0 1 true]) et (by decide) (by decide)]at e1
 have e2:am aW [cH 4 1 10 true,cH 5 0 1 true]=(srt aG [cH 4 1 10 true,cH 5 0 1 true,cH 2 0 13 false,cH 3 0 5 false],true,0):=by kernel_rfl
 rw[iP (m:=[cH 2 0 13 false,cH 3 0 5 false,cH 4 1 10 true,cH 5 0 1 true]) pu (by decide) (by decide)]at e2
 exact rN (B:=[]) (by kernel_rfl) (by kernel_rfl) e1 (by kernel_rfl) e2 (by kernel_rfl)
theorem GZ:an bA=[clA,clB,clC]:=by
 have:an bA=srt bJ [clA,clB,clC]:=by kernel_rfl
 rw[this]
 exact iP yS (by decide) (by decide)
theorem e_o1:aS [clA]=[clA]:=iP oo (by decide) (by decide)
theorem e_o2:aS [clA,clB]=[clA,clB]:=iP oo (by decide) (by decide)
theorem e_o3:aS [clA,clC]=[clA,clC]:=iP oo (by decide) (by decide)
theorem ev_s:fb aW bA=([clA,clC],0):=by
 have h0:(ag aW bA).2=0:=by
  have e1:aq bA=srt ap [cH 4 1 10 true,cH 4 0 8 true,cH 5 0 1 true]:=by kernel_rfl
  rw[iP (m:=[cH 4 0 8 true,cH 4 1 10 true,cH 5 0 1 true]) et (by decide) (by decide)]at e1
  refine o9.2 ⟨by kernel_rfl,by unfold aW;simp,?_⟩
  rw[e1]
  decide
 have s1:b_ aW bA 0 []=.inr [clA]:=by
  unfold b_
  rw[GZ]
  show(bif(((aM aW (aS [clA])).2.2==0)&&(aM aW (aS [clA])).2.1)then .inr (aS [clA])else .inr ([]:List Claim))=(.inr [clA]:Empty⊕List Claim)
  rw[e_o1]
  unfold aM
  rw[ev_d];rfl
 have s2:b_ aW bA 1 [clA]=.inr [clA]:=by
  unfold b_
  rw[GZ]
  show(bif(((aM aW (aS [clA,clB])).2.2==0)&&(aM aW (aS [clA,clB])).2.1)then .inr (aS [clA,clB])else .inr ([clA]:List Claim))=(.inr [clA]:Empty⊕List Claim)
  rw[e_o2]
  unfold aM
  rw[ev_e];rfl
 have s3:b_ aW bA 2 [clA]=.inr [clA,clC]:=by
  unfold b_
  rw[GZ]
  show(bif(((aM aW (aS [clA,clC])).2.2==0)&&(aM aW (aS [clA,clC])).2.1)then .inr (aS [clA,clC])else .inr ([clA]:List Claim))=(.inr [clA,clC]:Empty⊕List Claim)
  rw[e_o3]
  unfold aM
  rw[ev_f];rfl
 unfold fb
 rw[h0,GZ]
 simp only[bne_self_eq_false,cond_false,List.length_cons,List.length_nil,Nat.zero_add,aw,s1,s2,s3]
theorem m10:df=(fJ,true,0):=by unfold df aM;rw[ev_a];rfl
theorem m4:ee=(({ kind:=1,hour:=2,index:=0,litres:=21,limit:=20}:Fault),true,0):=by unfold ee bE;rw[ev_b];rfl
theorem m16:dU=(({ kind:=7,hour:=1,index:=0,litres:=9,limit:=0}:Fault),true,0):=by unfold dU bE;rw[ev_c];rfl
theorem m13:ib=([],false,191):=by kernel_rfl
theorem K1:la=true:=by
 unfold la iZ iY bf i7 a8 gL
 rw[m10,m4,ev_s,m16,m13]
 kernel_rfl
def CK (a b:Claim):Prop:=a.hour=b.hour∧a.rank=b.rank∧a.right=b.right∧a.farm=b.farm
theorem Oc {c:List Claim}(h:c.Pairwise tB){a b:Claim}(ha:a∈c)(hb:b∈c)(hk:CK a b):a=b:=by
 obtain⟨i,hi,rfl⟩:=List.getElem_of_mem ha
 obtain⟨j,hj,rfl⟩:=List.getElem_of_mem hb
 obtain⟨k1,k2,k3,k4⟩:=hk
 rw[List.pairwise_iff_getElem]at h
 rcases Nat.lt_trichotomy i j with q|q|q
 ·have:=h i j hi hj q;unfold tB at this;omega
 ·subst q;rfl
 ·have:=h j i hj hi q;unfold tB at this;omega
theorem Bc {c l:List Claim}(h:c.Pairwise tB)(hs:∀ x∈l,x∈c):apart bJ l∧apart bC l:=by
 refine⟨fun x hx y hy h1 h2=>Oc h (hs x hx) (hs y hy) ?_,fun x hx y hy h1 h2=>Oc h (hs x hx) (hs y hy) ?_⟩
 ·unfold ltOf at h1 h2
  rw[decide_eq_false_iff_not,vP]at h1 h2
  unfold slt at h1 h2
  simp only[o6,and_false,or_false]at h1 h2
  unfold CK;omega
 ·unfold ltOf at h1 h2
  rw[decide_eq_false_iff_not,yR]at h1 h2
  unfold clt at h1 h2
  simp only[o6,and_false,or_false]at h1 h2
  unfold CK;omega
theorem Ee (c:List Claim):(an c).Perm c:=List.mergeSort_perm _ _
theorem Ef (c:List Claim):(aS c).Perm c:=List.mergeSort_perm _ _
theorem If (d:District)(c:List Claim):gu d c:=by
 refine⟨DO d c,fun h=>?_⟩
 have hA:Askd d c:=o9.1 (by simpa using h)
 obtain⟨_,h2,h3,h4⟩:=(nL d c).1 hA.chk
 have hlen:(an c).length=c.length:=(Ee c).length_eq
 refine⟨⟨by unfold ct eD;omega,(Bc h4 fun x hx=>hx).1⟩,fun _=>?_⟩
 refine gT (fun j s=>(∀ x∈s,x∈c)∧s.length≤j) _ _ _ ⟨fun x hx=>(by cases hx),Nat.le_refl _⟩ fun j s _ hj ⟨hs,hl⟩ =>?_
 have hx:(an c).getD j (default:Claim)∈c:=(Ee c).mem_iff.1 (mZ _ _ (by omega))
 have hs2:∀ x∈s++[(an c).getD j (default:Claim)],x∈c:=fun x hq=>by
  rcases List.mem_append.1 hq with q|q
  ·exact hs x q
  ·simp only[List.mem_cons,List.not_mem_nil,or_false]at q;rw[q];exact hx
 refine⟨⟨by unfold eD;omega,by unfold eD;simp;omega,fun _=>⟨⟨by unfold ct eD;simp;omega,(Bc h4 hs2).2⟩,xu _ _⟩⟩,fun s' e=>?_⟩
 unfold b_ at e
 generalize (((aM d (aS (s++([((an c).getD j (default:Claim))])))).2.2==0)&&(aM d (aS (s++([((an c).getD j (default:Claim))])))).2.1)=b at e
 cases b with
 |true=>
  simp only[cond_true,Sum.inr.injEq]at e
  subst e
  refine⟨fun x hq=>hs2 x ((Ef _).mem_iff.1 hq),?_⟩
  rw[(Ef _).length_eq]
  simp;omega
 |false=>
  simp only[cond_false,Sum.inr.injEq]at e
  subst e
  exact⟨hs,by omega⟩
theorem Eg (a b:List Order):fl a b:=fun _ _ h=>by
 have h:(a.length:Int)=b.length:=by simpa using h
 refine gT (fun _ _=>True) _ _ _ trivial fun j s _ hj _=>⟨fun _=>by omega,fun _ _=>trivial⟩
theorem K2 (a b:List Claim):gw a b:=fun _ _ h=>by
 have h:(a.length:Int)=b.length:=by simpa using h
 refine gT (fun _ _=>True) _ _ _ trivial fun j s _ hj _=>⟨fun _=>by omega,fun _ _=>trivial⟩
theorem K3:mU:=by
 refine⟨xu _ _,fun _=>Eg _ _,fun _=>⟨by unfold cN;simp,y8 _ _,If _ _,y8 _ _,xu _ _,fun _=>⟨fun _=>?_,fun _=>?_,fun _=>K2 _ _⟩⟩⟩
 ·unfold gK bA cN;simp
 ·unfold gK bA cN;simp
end Go.Sx
end
section
namespace Go.Sx
open Go.Proofs
set_option maxRecDepth 100000
set_option linter.unusedSimpArgs false
def eR (a0:District)(a1:List Claim):Bool:=(bif(!la)then false else(bif(!(o_ a0 a1))then true else((((((fc ((aM a0 a1).1) ((fK a0 a1).1))&&((aM a0 a1).2.1==(fK a0 a1).2.1))&&((aM a0 a1).2.2==(fK a0 a1).2.2))&&((((bE a0 a1).1).kind==((dK a0 a1).1).kind)&&((((bE a0 a1).1).hour==((dK a0 a1).1).hour)&&((((bE a0 a1).1).index==((dK a0 a1).1).index)&&((((bE a0 a1).1).litres==((dK a0 a1).1).litres)&&(((bE a0 a1).1).limit==((dK a0 a1).1).limit))))))&&((bE a0 a1).2.1==(dK a0 a1).2.1))&&((bE a0 a1).2.2==(dK a0 a1).2.2))))
def fq (a0:District)(a1:List Claim):Prop:=((mU)∧((!la)=false→((!(o_ a0 a1))=false→((dl a0 a1)∧((mW a0 a1)∧((eK a0 a1)∧((lL a0 a1)∧(fl ((aM a0 a1).1) ((fK a0 a1).1)))))))))
@[go_sem] def gS:List SV→Option Con:=(pD .district fun a0=>(pR .claim fun a1=>(pE (.det (fq a0 a1) (.v (.bool (eR a0 a1)))))))
theorem pN:FnOk Tryz.prog 3 gS:=by
 have hG:ConsOk Tryz.prog (mkG [(10,uX),(11,fun l=>wD (ci [.st .district,.sl .claim] l)),(12,fun l=>kU (ci [.st .district,.sl .claim] l)),(13,fun l=>u4 (ci [.st .district,.sl .claim] l)),(14,fun l=>ka (ci [.st .district,.sl .claim] l)),(15,fun l=>sZ (ci [.st .district,.sl .claim] l)),(16,fun l=>jy (ci [.sl .order,.sl .order] l))] []):=aC (cgc Aa (cgc (Cb.norm [.st .district,.sl .claim]) (cgc (ot.norm [.st .district,.sl .claim]) (cgc (Ad.norm [.st .district,.sl .claim]) (cgc (nP.norm [.st .district,.sl .claim]) (cgc (zC.norm [.st .district,.sl .claim]) (cgc (mJ.norm [.sl .order,.sl .order]) cg0))))))) cg0
 refine aI [.o] mixed ax hG (fn:=Tryz.f3) (c:=ae Tryz.f3) (by kernel_rfl) (by kernel_rfl) (by kernel_rfl) (by kernel_rfl) (aN fun a0=>(cg fun a1=>(aB (fun hp=>?_))))
 dsimp only[aD]at hp
 unfold fq at hp
 refine⟨Nat.le_of_ble_eq_true rfl,L0,aj _,?_⟩
 ·unfold ae Tryz.f3
  try unfold eR
  simp only[go_sem,Nat.reduceBEq,Nat.reduceLeDiff,Nat.reduceLT,decide_true,Nat.reduceAdd,Nat.reduceSub,Nat.reduceMul,Int.reduceLE,Int.reduceLT,Int.reduceToNat,Int.reduceNeg,reduceCtorEq]
  all_goals exact cl
end Go.Sx
end
