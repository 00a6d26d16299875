/- Part of the proof of the law RefuseHoldsSpec (the Upto form). -/
import Derived.Test.YtaikmgjfkejlkaaGreatT114
set_option linter.all false
set_option maxHeartbeats 4000000
set_option maxRecDepth 100000
section
namespace Go.Sx
open Go.Lib Go.Proofs Go.Shelf Go.Sort
open IntKind (i64)
def J8 {ρ σ:Type}{step:Nat->σ->ρ⊕σ}(J:Nat->σ->Prop):∀ (n i:Nat) (s:σ),J i s->(∀ j s,i<=j->j<i+n->J j s->∃ s',step j s=.inr s'/\J (j+1) s')->∃ s',aj step n i s=.inr s'/\J (i+n) s'
 |0,i,s,h,_=>⟨s,rfl,h⟩
 |n+1,i,s,h,hs=>by
  have⟨s',e,h'⟩:=hs i s (aqb _) XM h;have⟨t,e2,h2⟩:=J8 J n (i+1) s' h' λj s a b c=>hs j s XM XM c;grind [aj]
def J9 {n i:Nat}:(List.replicate n (0:Int)).getD i 0=0:=by
 grind
section
variable {d:ai}{out:List Order}
def adX (V:aup d out)(W:∀ x∈out,x.S2=true)(r:Nat):
  ((fq d out r).length=d.hours.toNat/\∀ b:Nat,b<d.hours.toNat->(fq d out r).getD b 0=drw d out r b)/\pm d out r:=by
 have hr:=V.right;have hH:=hr.hours;have hH1:=hr.aua;have hl:=V.len;have key:∀ j (s:List Int),j<out.length->(s.length=d.hours.toNat/\∀ b:Nat,b<d.hours.toNat->s.getD b 0=drw d (out.take j) r b)->∃ s',g5 d out r j s=.inr s'/\(s'.length=d.hours.toNat/\∀ b:Nat,b<d.hours.toNat->s'.getD b 0=drw d (out.take (j+1)) r b):=by
  intro j s O ⟨h1,h2⟩;have Y:out[j]∈out:=aqL O;have E:=V.one _ Y;have ho:=W _ Y;have hx0:=E.au6;have hx1:=E.hour;have hxl:=E.bn;have X:=E.aut;unfold g5;rw[ib out default O,ho];have tk:∀ b:Nat,drw d (out.take (j+1)) r b=drw d (out.take j) r b+(bif nL d r b out[j]then out[j].bn else 0):=λb=>xJ O;cases hq:((d.zs.getD out[j].index.toNat default).reach==(r:Int))with
  |false=>
   grind [nL]
  |true=>
   refine⟨_,rfl,XN,λb hb=>?_⟩;rw[yD _ _ _ _ _ XM,tk];have hb0:=qr (d:=d) (l:=out.take j) (λx E=>by have:=V.one x (aqT E);exact⟨this.aut,this.bn⟩) r b;have hln:(out.take j).length<=4096:=XN
   by_cases e:b=out[j].hour.toNat
   subst e;rw[if_pos rfl,h2 _ hb];have hP:nL d r ((out[j].hour.toNat:Nat):Int) out[j]=true:=by
    unfold nL;grind
   rw[hP,cond_true,ar XM XM];grind [nL]
 have⟨s',e,h1,h2⟩:=J8 (step:=g5 d out r) (λj s=>s.length=d.hours.toNat/\∀ b:Nat,b<d.hours.toNat->s.getD b 0=drw d (out.take j) r b) out.length 0 (List.replicate d.hours.toNat 0)
  ⟨arD,λb _=>by rw[J9];rfl⟩ λj s _ O hJ=>key j s XM hJ
 refine⟨?_,⟨rfl,XM,by unfold dh;omega⟩,λ_=>?_⟩;simp_all [fq];refine gq (λ_ (s:List Int) =>s.length=d.hours.toNat) _ _ _ arD λj s _ O hs=>⟨λ_=>?_,λs' he=>?_⟩;rw[ib out default XM];have E:=V.one out[j] (aqL XM);have:=E.au6;have:=E.hour;have:=E.auM;exact⟨λq=>⟨XM,E.gl q⟩,λ_=>⟨⟨XM,XM⟩,⟨XM,XM⟩⟩⟩;grind [g5]
structure GR (d:ai)(gs:List Order)(g:List (List Int))(r:Nat):Prop where
 len:g.length=d.reaches.length
 row:∀ a,r<=a->a<d.reaches.length->(g.getD a []).length=d.hours.toNat
 cel:∀ a b:Nat,r<=a->a<d.reaches.length->b<d.hours.toNat->cell g a b=z9 gs a b
def Se (d:ai)(a:List Order)(r b:Int)(c:Nat):Int:=fS (λx=>nL d r b x&&decide (x.index< (c:Int))) a
theorem MX {gs:List Order}(V:∀ x∈gs,x.S2=false/\0<=x.index)(r b:Int)(c:Nat):
  Se d gs r b (c+1)=Se d gs r b c+(if(rch d c).up=r then z9 gs c b else 0):=by
 have h1:Se d gs r b c+fS (λx=>nL d r b x&&(x.index==(c:Int))) gs=Se d gs r b (c+1):=RE λx E=>by
  grind
 rw[<-h1];congr 1
 by_cases O:(rch d c).up=r
 rw[if_pos O];refine Jo λx E=>?_;unfold nL gP;grind
 rw[if_neg O];refine oj λx E=>?_;unfold nL;grind
structure DM (d:ai)(out gs:List Order)(r c:Nat)(dm:List Int):Prop where
 len:dm.length=d.hours.toNat
 val:∀ b:Nat,b<d.hours.toNat->dm.getD b 0=drw d out r b+Se d gs r b c
section
variable {gs:List Order}{s0:List (List Int)×Int}{r:Nat}
theorem VO {s1:List Int×Int}{c:Nat}(hc:s1.2=(c:Int))(W:s0.2=(r:Int))(hu:(d.reaches.getD c default).up=(r:Int))(Y:d.hours<=4096)(V:1<=d.hours):
  ∀ (n i k:Nat) (dm:List Int),dm.length=d.hours.toNat->k<=d.hours.toNat->d.hours.toNat - k<n->
   (∀ b:Nat,k<=b->b<d.hours.toNat-> -4611686018427387904<=dm.getD b 0+cell (s0.1.set r (List.replicate d.hours.toNat 0)) c b/\dm.getD b 0+cell (s0.1.set r (List.replicate d.hours.toNat 0)) c b<=4611686018427387904)->
   ∃ E,aj (eQ d s0 s1) n i (dm,(k:Int))=.inl E/\E.length=d.hours.toNat/\∀ b:Nat,b<d.hours.toNat->E.getD b 0=dm.getD b 0+(if k<=b then cell (s0.1.set r (List.replicate d.hours.toNat 0)) c b else 0)
 |0,_,_,_,_,_,h,_=>absurd h (aru _)
 |n+1,i,k,dm,hl,hk,hn,hb=>by
  have hst:eQ d s0 s1 i (dm,(k:Int))=if k<d.hours.toNat then .inr (dm.set k (dm.getD k 0+cell (s0.1.set r (List.replicate d.hours.toNat 0)) c k),((k+1:Nat):Int))else .inl dm:=by
   unfold eQ;simp only[hc,W,aqa];rw[show(((d.reaches.getD c default).up==(r:Int)))=true by grind,asq];by_cases O:k<d.hours.toNat
   rw[decide_eq_true XM,cond_true,if_pos O];have X:=hb k (aqb _) O;rw[show((s0.1.set r (List.replicate d.hours.toNat 0)).getD c []).getD k 0=cell (s0.1.set r (List.replicate d.hours.toNat 0)) c k from rfl];rw[ar XM XM,ar XM XM,show(k:Int)+1=((k+1:Nat):Int) by omega];grind
  unfold aj;rcases asa hk with O|rfl;have⟨E,e,h1,h2⟩:=VO hc W hu Y V n (i+1) (k+1) (dm.set k (dm.getD k 0+cell (s0.1.set r (List.replicate d.hours.toNat 0)) c k)) XN O XM λb h1 h2=>by
   grind
  grind
  grind
theorem ahX {s1:List Int×Int}{c:Nat}(hc:s1.2=(c:Int))(V:c<d.reaches.length)(hg:(s0.1.set (Int.toNat s0.2) (List.replicate d.hours.toNat 0)).length=d.reaches.length)(E:((s0.1.set (Int.toNat s0.2) (List.replicate d.hours.toNat 0)).getD c []).length=d.hours.toNat)(X:d.hours<=4096)(n i:Nat)(dm:List Int)(O:dm.length=d.hours.toNat):
  okI (eQ d s0 s1) (lP d s0 s1) n i (dm,0):=by
 refine gq (λ_ (s:List Int×Int) =>s.1.length=d.hours.toNat/\0<=s.2) n i (dm,0) ⟨O,aqO _⟩ λj s _ _ W=>⟨⟨λ_=>?_,λq=>?_⟩,λs' e=>?_⟩;omega;grind
 unfold eQ at e;cases Y:((decide (s.2<d.hours))&&((d.reaches.getD (Int.toNat s1.2) (default:Reach)).up==s0.2))with
 |true=>
  grind [ar]
 |false=>grind
def am1 {m:Mp}(hr:atq d)(ho:atC d out)(p:PI d out gs m r 0)(V:r<d.reaches.length)(hs:s0.2=(r:Int))(hG:GR d gs s0.1 (r+1)):
  ∀ (n k c:Nat) (dm:List Int),r+1<=c->c<=d.reaches.length->d.reaches.length - c<n->DM d out gs r c dm->
   (∃ E,aj (dv d s0) n k (dm,(c:Int))=.inl E/\DM d out gs r d.reaches.length E)/\okI (dv d s0) (lQ d s0) n k (dm,(c:Int))
 |0,_,_,_,_,_,h,_=>absurd h (aru _)
 |n+1,k,c,dm,hc1,hc2,hn,hD=>by
  have hH:=hr.hours;have hH1:=hr.aua;have hR:=hr.reaches;rcases asa hc2 with hc|rfl;have hcel:∀ b:Nat,b<d.hours.toNat->cell (s0.1.set r (List.replicate d.hours.toNat 0)) c b=z9 gs c b:=λb O=>by
   unfold cell;rw[yD _ _ _ _ _ (by rw[hG.len];exact V),if_neg XM];exact hG.cel c b XM hc O
  have hrow:((s0.1.set r (List.replicate d.hours.toNat 0)).getD c []).length=d.hours.toNat:=by
   rw[yD _ _ _ _ _ (by rw[hG.len];exact V),if_neg XM];exact hG.row c XM hc
  have hlen:=p.avF hr ho (aqq _);have X:∀ x∈gs,1<=x.bn/\x.bn<=1073741824:=λx W=>p.lit hr ho x (aro _ W);have hlo:∀ x∈out,1<=x.bn/\x.bn<=1073741824:=λx W=>p.lit hr ho x (arX _ W);have Y:∀ x∈gs,x.S2=false/\0<=x.index:=λx W=>⟨(p.gate x W).1.out,(p.gate x W).1.i0⟩;have hstep:∃ E,dv d s0 k (dm,(c:Int))=.inr (E,((c+1:Nat):Int))/\DM d out gs r (c+1) E:=by
   unfold dv;rw[decide_eq_true (by omega:(c:Int) < (d.reaches.length:Int)),ar XM XM];by_cases hu:(d.reaches.getD c default).up=(r:Int)
   have⟨E,e,h1,h2⟩:=VO (s0:=s0) (s1:=(dm,(c:Int))) (c:=c) rfl hs hu hH hH1 (d.hours.toNat+1) 0 0 dm hD.len (aqq _) XM λb _ O=>by
    rw[hD.val b O];have q1:=qr (d:=d) hlo r b;have q2:=su (p:=λx=>nL d r b x&&decide (x.index< (c:Int))) X;have q3:=su (p:=gP c b) X;grind [Se,z9]
   rw[show((0:Nat):Int)=0 from rfl]at e;rw[e];refine⟨E,rfl,h1,λb O=>?_⟩;rw[h2 b O,hD.val b O,if_pos (aqq _),hcel b O,MX Y,if_pos (show(rch d (c:Int)).up=(r:Int)from hu),Int.add_assoc];have e:aj (eQ d s0 (dm,(c:Int))) (d.hours.toNat+1) 0 (dm,0)=.inl dm:=by
    unfold aj eQ;grind
   rw[e];refine⟨dm,rfl,hD.len,λb O=>?_⟩;rw[hD.val b O,MX Y,if_neg (show ¬ (rch d (c:Int)).up=(r:Int)from hu),Int.add_zero]
  have⟨E,e,hD'⟩:=hstep;have⟨⟨dm2,e2,hD2⟩,hok⟩:=am1 hr ho p V hs hG n (k+1) (c+1) E XM hc XM hD';refine⟨⟨dm2,by grind [aj],hD2⟩,λ_ _=>⟨?_,λz hz=>?_⟩,λs' hs'=>?_⟩;exact ahX rfl hc (by rw[ark,hG.len]) XN hH _ _ _ hD.len;unfold dv at e;rw[decide_eq_true (by omega:(c:Int) < (d.reaches.length:Int)),hz]at e;simp[aqW]at e;have e3:=congrArg Prod.snd e;have e5:(default:List Int×Int).2=0:=rfl;omega;grind
  refine⟨⟨dm,?_,hD⟩,λ_ q=>?_,λs' hs'=>?_⟩;simp_all [aj,dv];grind
  simp_all [dv]
end
end
def Uf {i:Int}{x:Reach}(h:be i x=true)(w:Int):rC x w:=λ_ _=>Sb h w
def afb (x:Reach):fv x 0=(0,true):=rfl
section
variable {d:ai}{out gs:List Order}{m:Mp}{r:Nat}{s0:List (List Int)×Int}{dm:List Int}
theorem am2 (E:s0.2=(r:Int))(h:Nat)(g:List (List Int)):dK d s0 dm h g=(bif((!(fv (rch d r) (dm.getD h 0)).2) ||((decide ((fv (rch d r) (dm.getD h 0)).1 > 0))&&(decide ((i64.wrap ((h:Int) - (rch d r).delay)) <0))))then .inl ()else(bif(decide ((fv (rch d r) (dm.getD h 0)).1 > 0))then .inr (g.set r ((g.getD r []).set (Int.toNat (i64.wrap ((h:Int) - (rch d r).delay))) (fv (rch d r) (dm.getD h 0)).1))else .inr g)):=by
 grind [dK]
theorem abx (l:List Order)(x:Order)(a b:Int):z9 (l++[x]) a b=z9 l a b+(bif gP a b x then x.bn else 0):=by
 simp_all [z9,xI,fS]
variable {g:List (List Int)}
theorem GR.zero(p:PI d out gs m r 0)(hr:atq d)(hG:GR d gs g (r+1))(E:r<d.reaches.length):GR d gs (g.set r (List.replicate d.hours.toNat 0)) r:=by
 refine⟨by rw[ark];exact hG.len,λa h1 h2=>?_,λa b h1 h2 W=>?_⟩;rw[yD _ _ _ _ _ (by rw[hG.len];exact E)];by_cases e:a=r
 grind
 rw[if_neg e];exact hG.row a XM h2;unfold cell;rw[yD _ _ _ _ _ (by rw[hG.len];exact E)];by_cases e:a=r
 rw[if_pos e,J9];refine(oj λx V=>?_).symm;have⟨q1,q2⟩:=p.gate x V;have h0:=q1.h0;have hi:=q1.i0;have O:=q1.i1;have:1<=(rch d x.index).delay:=(hr.avb hi O).auT;unfold gP;rw[show(x.index==(a:Int))=false by rw[beq_eq_false_iff_ne];rcases q2 with q| ⟨q,X⟩ <;>omega];simp;rw[if_neg e];exact hG.cel a b XM h2 W
theorem GR.add{h:Nat}{v:Int}(p:PI d out gs m r h)(hG:GR d gs g r)(E:r<d.reaches.length)(hd:(rch d r).delay<=h)(W:1<=(rch d r).delay)(hh:h<d.hours.toNat):
  GR d (gs++[{ hour:=(h:Int) - (rch d r).delay,index:=r,bn:=v,S2:=false}]) (g.set r ((g.getD r []).set ((h:Int) - (rch d r).delay).toNat v)) r:=by
 have O:=hG.row r (aqb _) E;refine⟨by rw[ark];exact hG.len,λa h1 h2=>?_,λa b h1 h2 Y=>?_⟩;rw[yD _ _ _ _ _ XN];by_cases e:a=r
 grind
 rw[if_neg e];exact hG.row a h1 h2;have hc:=hG.cel a b h1 h2 Y;rw[abx];unfold cell at hc |-;by_cases e:a=r
 by_cases e2:b=((h:Int) - (rch d a).delay).toNat
 have hz:z9 gs a b=0:=oj λx X=>by
  have⟨q1,q2⟩:=p.gate x X;unfold gP;by_cases e3:x.index=(a:Int)
  have V:(a:Int)=a/\x.hour+(rch d a).delay< (h:Int):=by
   rcases q2 with q|q <;>grind
  grind
  grind
 unfold gP;grind
 unfold gP;grind
 grind [gP]
theorem ahY (hr:atq d)(ho:atC d out)(E:r<d.reaches.length)(hs:s0.2=(r:Int))(hdl:dm.length=d.hours.toNat):
  ∀ (n h:Nat) (gs:List Order) (m:Mp) (g:List (List Int)),h+n=d.hours.toNat->PI d out gs m r h->GR d gs g r->(∀ b:Nat,b<d.hours.toNat->dm.getD b 0=drw d (out++gs) r b)->
   ((∃ X m' g',cS (aI d) (CQ r d.hours.toNat h) (out++gs,m)=.inr (out++X,m')/\aj (dK d s0 dm) n h g=.inr g'/\PI d out X m' r d.hours.toNat/\GR d X g' r)\/
    ((∃ y,cS (aI d) (CQ r d.hours.toNat h) (out++gs,m)=.inl y)/\aj (dK d s0 dm) n h g=.inl ()))/\
   okI (dK d s0 dm) (f8 d s0 dm) n h g
 |0,h,gs,m,g,hn,p,hG,hD=>by
  have:h=d.hours.toNat:=XM
  subst this;exact⟨.inl ⟨gs,m,g,by rw[xr];rfl,rfl,p,hG⟩,trivial⟩
 |n+1,h,gs,m,g,hn,p,hG,hD=>by
  have hH:=hr.hours;have W:h<d.hours.toNat:=XM
  have hdy:=qs hr E;have hw:=hD h W;have hlit:=p.lit hr ho;have hb:=(qr (d:=d) hlit r h).1;have O:be (r:Int) (rch d r)=true:=hr.reach r E;have hin:fv (rch d r) (dm.getD h 0)=aw (rch d r) (drw d (out++gs) r h):=by rw[hw];exact Sc O hb
  have Y:=am2 (d:=d) (dm:=dm) hs h g;rw[ar XM XM,hin]at Y;have hP:∀ (s:List (List Int)),s.length=d.reaches.length->(s.getD r []).length=d.hours.toNat->(((!(aw (rch d r) (drw d (out++gs) r h)).2) ||((decide ((aw (rch d r) (drw d (out++gs) r h)).1 > 0))&&(decide ((h:Int) - (rch d r).delay<0))))=false->(decide ((aw (rch d r) (drw d (out++gs) r h)).1 > 0))=true->(0:Int)<=(h:Int) - (rch d r).delay)->f8 d s0 dm h s:=by
   intro s h1 h2 h3;unfold f8;rw[hs,aqa,show d.reaches.getD r default=rch d r from rfl,ar XM XM,hin];exact⟨XM,XM,Uf O _,XM,λq1 q2=>⟨XM,h3 q1 q2,XM⟩⟩
  have V:f8 d s0 dm h g:=hP g hG.len (hG.row r (aqb _) E) λq1 q2=>by
   grind
  rw[rX W];simp only[cS,aj];rcases EG hr ho E W (s:=(out++gs,m)) rfl p with⟨e0,e1⟩ | ⟨e0,e1,e2⟩ | ⟨v,e0,e1,e2,e3,e4,e5⟩;rw[e1];have hz:dK d s0 dm h g=.inr g:=by
   rw[Y,e0,<-Sc O (aqO 0)];rfl
  rw[hz];have⟨a1,a2⟩:=ahY hr ho E hs hdl n (h+1) gs m g XM (p.skip e0) hG hD;exact⟨a1,V,λs' e=>XN⟩;rw[e2];have hz:dK d s0 dm h g=.inl ():=by
   rw[Y];rcases e1 with e1|e1;rw[e1];rfl;rcases AL (i:=(r:Int)) XM O e0 with⟨v,e5,e6,_⟩ | ⟨e5,_⟩ <;>grind
  rw[hz];simp only;exact⟨.inr ⟨⟨_,rfl⟩,trivial⟩,V,λs' e=>XN⟩;rw[e5];have hz:dK d s0 dm h g=.inr (g.set r ((g.getD r []).set ((h:Int) - (rch d r).delay).toNat v)):=by
   grind
  rw[hz];have p':=p.add hr ho E W e0 e1 e2 e3 e4;have hG':=hG.add (v:=v) p E e2 hdy.1 W;have⟨a1,a2⟩:=ahY hr ho E hs hdl n (h+1) _ _ _ XM p' hG' λb hb'=>by
   rw[<-aqY,yC d (out++gs),Di];have hu:=ae5 hr E;unfold nL;grind
  exact⟨a1,V,λs' e=>XN⟩
theorem afc (hr:atq d)(hg:aup d out)(X:∀ x∈out,x.S2=true):∀ (r n k:Nat) (gs:List Order) (m:Mp) (g:List (List Int)),r<d.reaches.length->r+2<=n->PI d out gs m r 0->GR d gs g (r+1)->
   ((∃ O Y W,cS (aI d) (yb d.hours.toNat (r+1)) (out++gs,m)=.inr (out++O,Y)/\aj (dL d out) n k (g,(r:Int))=.inl (.inr W)/\PI d out O Y 0 d.hours.toNat/\GR d O W 0)\/
    ((∃ y,cS (aI d) (yb d.hours.toNat (r+1)) (out++gs,m)=.inl y)/\aj (dL d out) n k (g,(r:Int))=.inl (.inl ())))/\
   okI (dL d out) (ga d out) n k (g,(r:Int))
 |r,0,_,_,_,_,_,h,_,_=>absurd h XM
 |r,n+1,k,gs,m,g,hrl,hn,p,hG=>by
  have ho:=hg.auD;have hH:=hr.hours;have hH1:=hr.aua;have hR:=hr.reaches;obtain⟨⟨d1,d2⟩,d3⟩:=adX hg X r;have hgs:∀ x∈gs,(r:Int) <x.index:=λx hx=>by
   have⟨q1,q2⟩:=p.gate x hx;have:1<=(rch d x.index).delay:=(hr.avb q1.i0 q1.i1).auT;have:=q1.h0;rcases q2 with q| ⟨q,q3⟩ <;>omega
  have hDM:DM d out gs r (r+1) (fq d out r):=⟨d1,λb hb=>by
   rw[d2 b hb];unfold Se;rw[oj λx hx=>?_,Int.add_zero];grind⟩
  have hsr:((g,(r:Int)):List (List Int)×Int).2=(r:Int):=rfl;obtain⟨⟨dm,k1,kD⟩,k2⟩:=am1 (s0:=(g,(r:Int))) hr ho p hrl hsr hG (d.reaches.length+1) 0 (r+1) _ (aqb _) XM XM hDM;have hval:∀ b:Nat,b<d.hours.toNat->dm.getD b 0=drw d (out++gs) r b:=λb hb=>by
   rw[kD.val b hb,yC];unfold Se;rw[show fS (λx=>nL d r b x&&decide (x.index< (d.reaches.length:Int))) gs=drw d gs r b from Jo λx hx=>by
    rw[decide_eq_true (p.gate x hx).1.i1,asq]]
  obtain⟨a1,a2⟩:=ahY (s0:=(g,(r:Int))) hr ho hrl hsr kD.len d.hours.toNat 0 gs m _ XM p (GR.zero p hr hG hrl) hval;have hw1:i64.wrap ((r:Int)+1)=((r+1:Nat):Int):=by grind [ar]
  have hw2:i64.wrap ((r:Int) - 1)=(r:Int) - 1:=ar XM XM;have V:ga d out k (g,(r:Int)):=by
   unfold ga;simp only[hw1];refine λ_=>⟨⟨trivial,XM,by unfold dh;omega⟩,λ_=>⟨⟨XM,by rw[hG.len];omega⟩,d3,k2,λz e=>?_,λx e=>⟨XM,?_⟩⟩⟩ <;>grind
  have hst:dL d out k (g,(r:Int))=(match aj (dK d (g,(r:Int)) dm) d.hours.toNat 0 (g.set r (List.replicate d.hours.toNat 0))with| .inl _=>.inl (.inl ()) | .inr s_3=>.inr (s_3,(r:Int) - 1)):=by
   unfold dL;grind
  rw[xu,Ae];rcases a1 with⟨O,Y,W,b1,b2,b3,b4⟩ | ⟨⟨y,b1⟩,b2⟩
  ·rw[b1];have E:dL d out k (g,(r:Int))=.inr (W,(r:Int) - 1):=by rw[hst,b2]
   simp only[aj,E];cases r with
   |zero=>
    have hend:∀ j,dL d out j (W,(((0:Nat):Int)) - 1)=.inl (.inr W):=λj=>by
     rfl
    refine⟨.inl ⟨O,Y,W,rfl,?_,b3,b4⟩,V,λs' e=>?_⟩;cases n with
    |zero=>omega|succ n=>rfl
    rw[E]at e;cases e;cases n with
    |zero=>trivial
    |succ n=>
     refine⟨?_,λs' e=>XN⟩;simp_all [ga]
   |succ r=>
    have e1:(((r+1:Nat):Int)) - 1=(r:Int):=XM
    rw[e1];have⟨c1,c2⟩:=afc hr hg X r n (k+1) O Y W XM XM (b3.row hrl hH1) b4;refine⟨c1,V,λs' e=>?_⟩;grind
  rw[b1];have E:dL d out k (g,(r:Int))=.inl (.inl ()):=by rw[hst,b2]
  simp only[aj,E];exact⟨.inr ⟨⟨y,rfl⟩,trivial⟩,V,λs' e=>XN⟩
theorem ahZ (hr:atq d)(p:PI d out gs m 0 d.hours.toNat):auV d out gs:=by
 have⟨gs',e,h⟩:=aaJ (out:=out) (s:=(out++gs,m)) hr ⟨gs,0,d.hours.toNat,hr.one,aqb _,rfl,by rw[xr];rfl,p⟩;simp_all
theorem adY (hN:Nar d out)(E:∀ x∈out,x.S2=true):
  ((aH d out=([],false,0)/\ca d out=([],false))\/
   ∃ gs g,auV d out gs/\ca d out=(g,true)/\GR d gs g 0/\aH d out=(bif decide (((out++gs).length:Int) > 4096)then([],false,2)else(srt aM (out++gs),true,0)))/\pn d out:=by
 have V:=hN.good;have hr:=V.right;have ho:=V.auD;have hR:=hr.reaches;have h1:=hr.one;have⟨f1,_,f3⟩:=AM hr ho;have⟨m,hm⟩:=f3 E;have O:PI d out [] m (d.reaches.length - 1) 0:=by
  refine⟨λa b=>XN,λx hx=>(by cases hx),λa b a0 a1 b0 X q=>?_,List.Pairwise.nil,aqq _⟩;rcases q with q| ⟨q,q2⟩ <;>grind
 have W:GR d [] (List.replicate d.reaches.length ([]:List Int)) (d.reaches.length - 1+1):=⟨arD,λa a1 a2=>XM,λa b a1 a2=>XM⟩;have⟨c1,c2⟩:=afc hr V E (d.reaches.length - 1) (d.reaches.length+1) 0 [] m _ XM XM O W;have e1:i64.wrap ((d.reaches.length:Int) - 1)=((d.reaches.length - 1:Nat):Int):=by grind [ar]
 have e2:yb d.hours.toNat (d.reaches.length - 1+1)=cd d:=by grind [cd]
 rw[e2,aqo]at c1;have Y:aH d out=(match cS (aI d) (cd d) (out,m)with| .inl _=>([],false,0) | .inr s=>(bif decide (((s.1).length:Int) > 4096)then([],false,2)else(srt aM s.1,true,0))):=by
  unfold aH;rw[(vY d out).2 hN];grind
 have hI:ca d out=(match aj (dL d out) (d.reaches.length+1) 0 ((List.replicate d.reaches.length []),((d.reaches.length - 1:Nat):Int))with| .inl (.inl lx) =>([],false) | .inl (.inr x_0_1) =>(x_0_1,true) | .inr ee=>default):=by
  grind [ca]
 refine⟨?_,λ_=>⟨⟨rfl,XM,by unfold dh;omega⟩,λ_ _=>?_⟩⟩;rcases c1 with⟨gs,m',g,X,b2,b3,b4⟩ | ⟨⟨y,X⟩,b2⟩;refine .inr ⟨gs,g,ahZ hr b3,by rw[hI,b2],b4,by rw[Y,X]⟩;grind
 grind
end
theorem Pf (l:List Order)(x:Order)(E:l.length<=100000):aj (ol l x) (l.length+1) 0 0=.inl (((l.takeWhile λy=>eJ y x).length:Nat):Int):=by
 have:=MW (step:=ol l x) (q:=λy=>eJ y x) (λj s=>rfl) E (l.length+1) 0 0 (aqq _) XM;grind
def ah0 (l:List Order)(x:Order)(E:l.length<=100000):u5 l x=ins (λy=>eJ y x) x l:=by
 simp_all [u5,Pf,VN]
def am3 (l:List Order)(x:Order)(E:l.length<=100000):wJ l x:=by
 have O:=am0 (λy=>eJ y x) l;refine⟨abw (step:=ol l x) (p:=rD l x) (q:=λy=>eJ y x) (λj s=>rfl) E (λj s=>rfl) _,λz e=>?_,λz e=>?_⟩;grind [Pf]
 rw[Pf l x E]at e;cases e;generalize (l.takeWhile λy=>eJ y x).length=k at O;simp only[aqa,aqs,as0,ary];grind [dh]
def ah1 (x:Order):K x x:=⟨rfl,rfl,rfl⟩
variable {l:List Order}
def Pg(h:l.Pairwise λx y=>¬K x y):l.Nodup:=List.Pairwise.imp (λ{x y} q (e:x=y) =>q (e▸ah1 x)) h
theorem ah2 {a b c:Order}(h1:olt a b)(h2:olt b c):olt a c:=by grind [olt]
def aby{x:Order}(O:∀ y∈l,¬K x y)(h:l.Pairwise olt):(ins (λy=>eJ y x) x l).Pairwise olt:=by
 refine Sd (R:=olt) (λa b c h1 h2=>ah2 h1 h2) (λy hy=>⟨λq=>(Ak y x).1 q,λq=>?_⟩) h;have V:¬olt y x:=λe=>by grind [Ak]
 by_cases E:olt x y
 exact E;exact absurd (Dj E V) (O y hy)
section
variable {d:ai}{out gs:List Order}{g:List (List Int)}
structure PT (d:ai)(out gs:List Order)(r h:Nat)(l:List Order):Prop where
 asc:l.Pairwise olt
 mem:∀ x,x∈l↔x∈out\/(x∈gs/\(x.index< (r:Int)\/x.index=(r:Int)/\x.hour< (h:Int)))
 len:l.length<=out.length+r*d.hours.toNat+h
variable {l:List Order}
theorem PT.step(W:aup d out)(O:∀ x∈out,x.S2=true)(X:auV d out gs){r h:Nat}(p:PT d out gs r h l)(hl:l.length<=100000):
  PT d out gs r (h+1) (bif decide (z9 gs r h > 0)then u5 l { hour:=(h:Int),index:=(r:Int),bn:=z9 gs r h,S2:=false}else l):=by
 have hK:=Dk W O X;have E:gs.Pairwise λx y=>¬K x y:=(aqr.1 hK).2.1;have hr:=W.right;have Y:∀ x∈gs,x.S2=false:=λx hx=>(X.gate x hx).out;have V:=VA W X;by_cases hv:z9 gs r h > 0
 rw[decide_eq_true hv,cond_true,ah0 l _ hl];obtain⟨x,hx,x1,x2,x3,x4⟩:=adD E (show z9 gs r h≠0 by omega);have ex:({ hour:=(h:Int),index:=(r:Int),bn:=z9 gs r h,S2:=false}:Order)=x:=by
  cases x;grind
 rw[ex];refine⟨aby (λy hy k=>?_) p.asc,λy=>?_,?_⟩;rcases(p.mem y).1 hy with q| ⟨q,q2⟩;have:=k.2.2;grind;have a1:=k.1;have a2:=k.2.1;omega;rw[(DC _ x l).mem_iff,aqg,p.mem y];constructor
 grind
 rintro (q| ⟨q,q2⟩);grind
 by_cases e:y.index=(r:Int)/\y.hour=(h:Int)
 exact .inl (ON E q hx ⟨XM,XM,XN⟩);grind
 rw[adW];have:=p.len;omega;rw[decide_eq_false hv,cond_false];refine⟨p.asc,λy=>?_,by have:=p.len;omega⟩;rw[p.mem y];constructor
 grind
 rintro (q| ⟨q,q2⟩);exact .inl q;refine .inr ⟨q,?_⟩;by_cases e:y.index=(r:Int)/\y.hour=(h:Int)
 have:=aaQ E q (Y y q);rw[e.1,e.2]at this;have:=(V y (aro _ q)).aut;omega;omega
theorem PT.next(hr:atq d)(E:auV d out gs){r:Nat}(p:PT d out gs r d.hours.toNat l):PT d out gs (r+1) 0 l:=by
 refine⟨p.asc,λy=>?_,?_⟩;rw[p.mem y];constructor
 grind
 rintro (q| ⟨q,O⟩);exact .inl q;have h1:=(E.gate y q).h1;have h0:=(E.gate y q).h0;have h2:1<=(rch d y.index).delay:=(hr.avb (E.gate y q).i0 (E.gate y q).i1).auT;grind
 have:=p.len;grind
theorem abz (hN:Nar d out)(E:∀ x∈out,x.S2=true)(V:auV d out gs)(hI:ca d out=(g,true))(hG:GR d gs g 0):
  (∃ l,aj (jo d out) g.length 0 ([]++out)=.inr l/\l=srt aM (out++gs))/\okI (jo d out) (pr d out) g.length 0 ([]++out):=by
 have X:=hN.good;have hr:=X.right;have hH:=hr.hours;have hH1:=hr.aua;have hR:=hr.reaches;have hw:=hN.wide;have hol:=X.len;have hm:∀ r:Nat,r<=d.reaches.length->r*d.hours.toNat<=1024:=λr h=>by
  have h1:r*d.hours.toNat<=d.reaches.length*d.hours.toNat:=aqm _ h;grind
 have Y:(ca d out).1=g:=by rw[hI]
 have hcell:∀ r h:Nat,r<d.reaches.length->h<d.hours.toNat->((((ca d out).1).getD r (default:List Int)).getD h (0:Int))=z9 gs r h:=λr h h1 h2=>by
  rw[Y];exact hG.cel r h (aqq _) h1 h2
 have O:∀ r:Nat,r<d.reaches.length->(((ca d out).1).getD r (default:List Int)).length=d.hours.toNat:=λr h1=>by
  rw[Y];exact hG.row r (aqq _) h1
 have st2:∀ r h l,r<d.reaches.length->h<d.hours.toNat->PT d out gs r h l->l.length<=100000/\∃ l',kB d out r h l=.inr l'/\PT d out gs r (h+1) l':=λr h l h1 h2 p=>by
  have hl:l.length<=100000:=by have:=p.len;grind
  refine⟨hl,_,?_,p.step X E V hl⟩;grind [kB]
 have W:∀ r l,r<d.reaches.length->PT d out gs r 0 l->(∃ l',jo d out r l=.inr l'/\PT d out gs (r+1) 0 l')/\okI (kB d out r) (mg d out r) d.hours.toNat 0 l:=λr l h1 p=>by
  obtain⟨l',e,q⟩:=J8 (step:=kB d out r) (λh l=>PT d out gs r h l) d.hours.toNat 0 l p λh l _ hh q=>(st2 r h l h1 XM q).2;refine⟨⟨l',by grind [jo],PT.next hr V XN⟩,?_⟩;refine gq (λh l=>PT d out gs r h l) d.hours.toNat 0 l p λh l _ hh q=>⟨?_,λs' e=>?_⟩;obtain⟨q1,_⟩:=st2 r h l h1 XM q;unfold mg;rw[O r h1];exact⟨XM,λ_=>⟨XM,am3 _ _ q1⟩⟩;grind
 have p0:PT d out gs 0 0 ([]++out):=by
  refine⟨X.asc,λx=>?_,by simp⟩;rw[aqs];constructor
  exact .inl;rintro (q| ⟨q,q2⟩);exact q;have:=(V.gate x q).i0;have:=(V.gate x q).h0;omega
 rw[hG.len];obtain⟨l',e,q⟩:=J8 (step:=jo d out) (λr l=>PT d out gs r 0 l) d.reaches.length 0 _ p0 λr l _ hh q=>(W r l XM q).1;refine⟨⟨l',e,?_⟩,?_⟩;have hK:=Dk X E V;refine(ahM (l:=out++gs) ?_ q.asc).symm;refine(arZ (Pg (q.asc.imp λ{_ _} a=>Jw a)) (Pg hK)).2 λx=>?_;rw[q.mem x,aqz];constructor
 grind
 rintro (a|a);exact .inl a;exact .inr ⟨a,.inl (by have:=(V.gate x a).i1;omega)⟩;refine gq (λr l=>PT d out gs r 0 l) d.reaches.length 0 _ p0 λr l _ hh q=>⟨?_,λs' e=>?_⟩;exact λ_=>⟨XM,(W r l XM q).2⟩;grind
theorem ah3 (hr:atq d):sC d=decide ((d.reaches.length:Int)*d.hours > 1024):=by
 have E:=AN hr;grind [sC,ar]
theorem MY (out:List Order):aj (kA out) out.length 0 ()=.inr ()↔∀ x∈out,x.S2=true:=by
 rw[gf];unfold kA;constructor
 intro h x E;obtain⟨k,O,rfl⟩:=aqw E;grind
 grind
theorem ah4 (d:ai)(out:List Order):iU d out=aH d out/\uL d out:=by
 have hcs:=Ue d out;by_cases hc:cN d out=0
 ·have O:=Vz hc;have hr:=O.right;have hw:=ah3 hr;by_cases W:(d.reaches.length:Int)*d.hours > 1024
  rw[decide_eq_true W]at hw;have hn:cU d out=2:=by
   have hm:=AN hr;grind [cU,ar]
  refine⟨?_,xO d out,λ_ q=>XN⟩;grind [iU,aH]
  ·rw[decide_eq_false W]at hw;have Y:Nar d out:=⟨O,XM⟩;have hn:=(vY d out).2 Y;by_cases E:∀ x∈out,x.S2=true
   have V:=(MY out).2 E;obtain⟨hI,X⟩:=adY Y E;rcases hI with⟨e1,e2⟩ | ⟨gs,g,hF,e1,hG,e2⟩;refine⟨?_,xO d out,λ_ _ _ _=>⟨X,λq=>XN⟩⟩;grind [iU]
   obtain⟨⟨l,t1,t2⟩,t3⟩:=abz Y E hF e1 hG;have hlen:l.length=(out++gs).length:=by rw[t2,(z8 _).length_eq]
   refine⟨?_,xO d out,λ_ _ _ _=>⟨X,λq=>⟨?_,λ_=>?_⟩⟩⟩;simp_all [iU];have:=O.len;grind [dh];grind
   ·have V:∃ u,aj (kA out) out.length 0 ()=.inl u:=by
     cases e:aj (kA out) out.length 0 ()with
     |inl u=>simp_all|inr u=>exact absurd ((MY out).1 e) E
    obtain⟨u,hu⟩:=V;refine⟨?_,xO d out,λ_ _ s e=>XN⟩;rcases BX d out with⟨q,_⟩ | ⟨_,_,q⟩ | ⟨_,q,_⟩ | ⟨_,q,_⟩ | ⟨_,q,_⟩;omega;grind [iU]
    grind
    grind
    grind
 have hn:cU d out=cN d out:=by
  grind [cU]
 have hb:(cN d out !=0)=true:=XN
 refine⟨?_,xO d out,λq=>XN⟩;grind [iU,aH]
end
variable {d:ai}{c:List Claim}
theorem abA(hc:b9 d c=0){f h:Int}(hn:rj c f h≠0):0<=f/\f< (d.zs.length:Int)/\0<=h/\h<d.hours:=by
 have⟨a,ha,e⟩:=BZ hn;have E:=((iS d c).1 hc).2.2.1 a ha;simp_all [okC,oP,wT]
theorem Xx(h:auY c)(f t:Int):kC c f t=rj c f t:=by
 have⟨s',e,hs⟩:=J8 (step:=oo c f t) (λj s=>s=rj (c.take j) f t) c.length 0 0 rfl λj s _ V q=>by
  have E:j<c.length:=XM
  have b:=OQ (h.take (j+1)) f t;have O:=MI E f t;unfold oo;by_cases hc:oP f t=wT c[j]
  rw[if_pos hc]at O;unfold oP wT at hc;grind [ar]
  have:((c[j].gl==f)&&(c[j].hour==t))=false:=by
   grind [oP,wT]
  grind
 simp_all [kC]
structure OT (d:ai)(c:List Claim)(t f:Nat)(o:List Order):Prop where
 out:∀ x∈o,x.S2=true
 asc:o.Pairwise olt
 lit:∀ x∈o,x.bn=rj c x.index x.hour/\1<=x.bn
 pos:∀ x∈o,x.hour< (t:Int)\/x.hour=(t:Int)/\x.index< (f:Int)
 all:∀ a b:Nat,b<t\/b=t/\a<f->a<d.zs.length->rj c a b≠0->∃ x∈o,x.index=(a:Int)/\x.hour=(b:Int)
 len:o.length<=t*d.zs.length+f
variable {o:List Order}
theorem OT.step(hc:auY c){t f:Nat}(p:OT d c t f o):∃ X,g6 d c t f o=.inr X/\OT d c t (f+1) X:=by
 have hn:=OQ hc f t;unfold g6;rw[Xx hc];by_cases h:rj c f t > 0
 rw[decide_eq_true h];refine⟨_,rfl,λx E=>?_,?_,λx E=>?_,λx E=>?_,λa b W V O=>?_,?_⟩;rcases aqz.1 E with q|q;exact p.out x q;grind
 rw[aqr];refine⟨p.asc,aqI _ _,λx E y hy=>?_⟩;have h1:=p.pos x E;have h2:=p.out x E;simp_all [olt,A4];rcases aqz.1 E with q|q;exact p.lit x q;grind
 rcases aqz.1 E with q|q;have:=p.pos x q;omega;grind
 by_cases q:b<t\/b=t/\a<f
 have⟨x,E,e⟩:=p.all a b q V O;grind
 have:b=t/\a=f:=XM
 simp_all;have:=p.len;grind
 rw[decide_eq_false h];refine⟨_,rfl,p.out,p.asc,p.lit,λx E=>by have:=p.pos x E;omega,λa b W V O=>?_,by have:=p.len;omega⟩;by_cases q:b<t\/b=t/\a<f
 exact p.all a b q V O;grind
theorem OT.next{t:Nat}(p:OT d c t d.zs.length o):OT d c (t+1) 0 o:=
 ⟨p.out,p.asc,p.lit,λx V=>(by have:=p.pos x V;omega),λa b W O E=>p.all a b XM O E,(by have:=p.len;grind)⟩
theorem Xy{o1 o2:List Order}(a1:∀ x∈o1,x.S2=true)(O:o1.Pairwise olt)(X:∀ x∈o1,x.bn=rj c x.index x.hour/\1<=x.bn)(a4:∀ f h,rj c f h≠0->∃ x∈o1,x.index=f/\x.hour=h)
  (W:∀ x∈o2,x.S2=true) (E:o2.Pairwise olt) (V:∀ x∈o2,x.bn=rj c x.index x.hour/\1<=x.bn) (b4:∀ f h,rj c f h≠0->∃ x∈o2,x.index=f/\x.hour=h):o1=o2:=by
 have key:∀ p q:List Order,(∀ x∈p,x.S2=true)->(∀ x∈p,x.bn=rj c x.index x.hour/\1<=x.bn)->(∀ x∈q,x.S2=true)->(∀ x∈q,x.bn=rj c x.index x.hour/\1<=x.bn)->(∀ f h,rj c f h≠0->∃ x∈q,x.index=f/\x.hour=h)->∀ x∈p,x∈q:=by
  intro p q c1 Y c3 c4 c5 x hx;have h1:=Y x hx;have⟨y,hy,e1,e2⟩:=c5 x.index x.hour XM;have:x=y:=by
   cases x;cases y;grind
  grind
 refine aq0 (λa b _ _ h1 h2=>absurd h2 (λh2=>by grind [olt])) O E ?_;exact(arZ (Pg (O.imp λ{_ _} a=>Jw a)) (Pg (E.imp λ{_ _} a=>Jw a))).2 λx=>⟨key o1 o2 a1 X W V b4 x,key o2 o1 W V a1 X a4 x⟩
theorem MZ(hc:b9 d c=0):bQ d c=aA c/\iV d c:=by
 have Y:=GW hc;have V:=outs Y;have hr:=JF hc;have hH:=hr.hours;have hFl:=hr.zs;have W:∀ t o,OT d c t 0 o->(∃ E,jv d c t o=.inr E/\OT d c (t+1) 0 E)/\(t<d.hours.toNat->okI (g6 d c t) (lR d c t) d.zs.length 0 o):=λt o p=>by
  have⟨E,e,q⟩:=J8 (step:=g6 d c t) (λf o=>OT d c t f o) d.zs.length 0 o p λf o _ _ q=>q.step Y;refine⟨⟨E,by grind [jv],(by rw[aqu]at q;exact q.next)⟩,λht=>?_⟩;refine gq (λf o=>OT d c t f o) d.zs.length 0 o p λf o _ hf q=>⟨λ_ _=>?_,λs' e=>?_⟩;have:=q.len;have h2:t*d.zs.length<=4096*600:=arY XM hFl;grind [dh]
  have⟨E,e',q'⟩:=q.step Y;grind
 have p0:OT d c 0 0 []:=⟨λx O=>(by cases O),List.Pairwise.nil,λx O=>(by cases O),λx O=>(by cases O),λa b hab ha hs=>XM,aqq _⟩;have⟨E,e,q⟩:=J8 (step:=jv d c) (λt o=>OT d c t 0 o) d.hours.toNat 0 [] p0 λt o _ _ q=>(W t o q).1;have X:∀ f h,rj c f h≠0->∃ x∈E,x.index=f/\x.hour=h:=λf h hn=>by
  have⟨h1,h2,h3,h4⟩:=abA hc hn;have⟨x,O,e1,e2⟩:=q.all f.toNat h.toNat XM XM XN;grind
 have heq:E=aA c:=Xy q.out q.asc q.lit X V.out V.asc V.lit V.all;refine⟨?_,λ_ _=>⟨XM,?_⟩⟩;unfold bQ;cases c with
 |nil=>
  have:aA []=[]:=aqn (by have:=V.len;grind);grind
 |cons a r=>
  grind
 refine gq (λt o=>OT d c t 0 o) d.hours.toNat 0 [] p0 λt o _ ht q=>⟨(W t o q).2 XM,λs' e=>?_⟩;grind
theorem adZ {ρ:Type}{step:Nat->Unit->ρ⊕Unit}{n:Nat}(h:¬ ∀ j,j<n->step j ()=.inr ()):∃ y,aj step n 0 ()=.inl y:=by
 cases e:aj step n 0 ()with
 |inl y=>grind
 |inr u=>exact absurd (λj E=>ny e j (aqq _) XM) h
theorem ad0 (d:ai)(c:List Claim):kn d c=(aO d c).2/\th d c:=by
 by_cases h1:b9 d c=0
 have O:lm d c=0:=by grind [EY]
 have hw:=VG h1;have⟨o1,o2⟩:=MZ h1;refine⟨?_,MV d c,λ_ _ _=>o2⟩;unfold kn aO;rw[O,h1,hw,o1];by_cases h2:(d.reaches.length:Int)*d.hours > 1024
 grind
 rw[decide_eq_false h2];have V:∀ j,k_ d c j ()=bif decide (((aA c).getD j default).bn > 1073741824)then .inl ()else .inr ():=λj=>by
  grind [k_]
 cases X:bb (aA c)with
 |true=>
  have⟨x,hx,hl⟩:=(ta _).1 X;obtain⟨j,W,rfl⟩:=aqw hx;have⟨y,hy⟩:=adZ (step:=k_ d c) (n:=(aA c).length) λq=>by
   grind
  rw[hy];rfl
 |false=>
  have:aj (k_ d c) (aA c).length 0 ()=.inr ():=r9 λj _ W=>by
   have E:j< (aA c).length:=XM
   by_cases q:(aA c)[j].bn > 1073741824
   have:=(ta _).2 ⟨_,aqL E,q⟩;grind
   grind
  grind
 refine⟨?_,MV d c,λq=>by grind [EY]⟩;grind [kn,aO,EY]
end Go.Sx
end
section
namespace Go.Sx
section
variable {σ ρ:Type}{D:Nat->σ->St}{n0 k:Nat}{st:St}{c:Bool}{a b:ρ⊕σ}
theorem ad1 (h:c=true)(g:xn D n0 k st a):xn D n0 k st (bif c then a else b):=by rw[h];exact g
theorem ad2 (h:c=false)(g:xn D n0 k st b):xn D n0 k st (bif c then a else b):=by rw[h];exact g
end
end Go.Sx
end
section
namespace Go.Sx
open Go.Proofs Tryz
open IntKind (i64)
@[go_sem] def fU (b:ai)(c:Nat)(a:List (List Int)×Int):(List (List Int))⊕(List (List Int)×Int):=(bif(decide (a.2< (a.1.length:Int)))then .inr ((a.1.set (Int.toNat a.2) (List.replicate (Int.toNat b.hours) (0:Int))),(i64.wrap (a.2+1)))else .inl a.1)
def pt (b:ai)(c:Nat)(a:List (List Int)×Int):Prop:=(a.1.length<=aD->((decide (a.2< (a.1.length:Int)))=true->((b.hours=b.hours/\0<=b.hours/\b.hours*((8:Nat):Int)<=((dh:Nat):Int))/\(b.hours<=((aD:Nat):Int)->(0<=a.2/\a.2< (a.1.length:Int))))))
@[go_sem] def jp (d:ai)(f:List Claim)(g:Nat)(a:List (List Int)):Empty⊕(List (List Int)):=letI b:=(bQ d f).getD g default;letI c:=Int.toNat ((d.zs.getD (Int.toNat (b.index)) default).reach);letI e:=Int.toNat (b.hour);.inr (a.set c ((a.getD c []).set e (i64.wrap (((a.getD c []).getD e 0)+b.bn))))
def mh (b:ai)(h:List Claim)(i:Nat)(d:List (List Int)):Prop:=letI e:=bQ b h;letI a:=e.getD i default;letI c:=b.zs.getD (Int.toNat (a.index)) default;letI f:=0<=a.hour/\a.hour< ((d.getD (Int.toNat (c.reach)) []).length:Int);letI g:=0<=c.reach/\c.reach< (d.length:Int);(e.length<=aD->((0<=a.index/\a.index< (b.zs.length:Int))/\(g/\(g/\(f/\f)))))
@[go_sem] def jq (t:ai)(k:List (List Int)×List G2×Int)(q:Nat)(a:List G2×List (List Int)):Empty⊕(List G2×List (List Int)):=letI b:=(a.1,a.2);letI l:=k.2.2==0;letI m:=(q:Int);letI r:=Int.toNat k.2.2;letI d:=t.reaches.getD r default;letI e:=Int.toNat (i64.wrap (m - d.delay));letI c:=(a.2.getD r []).getD q 0;letI f:=a.1++([({ kind:=7,hour:=m,index:=k.2.2,bn:=c,limit:=0}:G2)]);letI g:=Int.toNat (d.up);letI h:=a.2.getD g [];letI i:=decide (m<d.delay);letI n:=a.2.set g (h.set e (-1));letI j:=fw d c;letI o:=h.getD e 0;letI s:=a.2.set g (h.set e (i64.wrap (o+j.1)));letI p:=decide (o>=0);(bif(c==0)then .inr b else(bif(decide (c > 0))then(bif((!j.2) ||i)then(bif(l||i)then .inr (f,a.2)else(bif(!j.2)then .inr (f,n)else(bif p then .inr (f,s)else .inr (f,a.2))))else(bif(l||i)then .inr b else(bif(!j.2)then .inr (a.1,n)else(bif p then .inr (a.1,s)else .inr b))))else(bif(l||i)then .inr b else(bif(!(decide (c > 0)))then .inr (a.1,n)else(bif p then .inr (a.1,(a.2.set g (h.set e (i64.wrap (o+0)))))else .inr b)))))
def jW (v:ai)(b:List (List Int)×List G2×Int)(p:Nat)(c:List G2×List (List Int)):Prop:=letI d:=(p:Int);letI m:=Int.toNat b.2.2;letI a:=v.reaches.getD m default;letI e:=(c.2.getD m []).getD p 0;letI i:=0<=d/\d< ((c.2.getD m []).length:Int);letI f:=decide (d<a.delay);letI j:= !(fw a e).2;letI q:=c.1++([({ kind:=7,hour:=d,index:=b.2.2,bn:=e,limit:=0}:G2)]);letI n:=i64.wrap (d - a.delay);letI k:=decide (e > 0);letI r:=c.2.getD (Int.toNat (a.up)) [];letI g:=0<=n/\n< (r.length:Int);letI o:=b.2.2==0;letI s:=(c.2.length:Int);letI h:=0<=a.up/\a.up<s;letI t:=h/\(g/\((decide ((r.getD (Int.toNat n) 0)>=0))=true->(h/\(h/\(g/\g)))));letI l:=0<=b.2.2/\b.2.2<s;letI u:=(j=true->(h/\g))/\(j=false->t);(l/\(i/\((e==0)=false->(l/\(i/\((k=true->(l/\(i/\((rE a e)/\(((j||f)=true->(l/\(i/\((q.length*40<=dh)/\(q.length<=aD->((o||f)=false->u))))))/\((j||f)=false->((o||f)=false->u)))))))/\(k=false->((o||f)=false->(((!k)=true->(h/\g))/\((!k)=false->t))))))))))
@[go_sem] def ik (b:ai)(d:Nat)(a:List (List Int)×List G2×Int):(List G2)⊕(List (List Int)×List G2×Int):=(bif(decide (a.2.2>=0))then(match aj (jq b a) (Int.toNat b.hours) 0 (a.2.1,a.1)with| .inl x=>x.elim| .inr c=>.inr (c.2,c.1,(i64.wrap (a.2.2 - 1))))else .inl a.2.1)
def pu (b:ai)(c:Nat)(a:List (List Int)×List G2×Int):Prop:=((decide (a.2.2>=0))=true->((0<=a.2.2/\a.2.2< (b.reaches.length:Int))/\((b.hours<9223372036854775808)/\okI (jq b a) (jW b a) (Int.toNat b.hours) 0 (a.2.1,a.1))))
def sF (a:ai)(b:List Claim):List G2:=letI c:=a.reaches.length+1;(match aj (fU a) c 0 ((List.replicate a.reaches.length []),0)with| .inl d=>(match aj (jp a b) ((bQ a b).length) 0 d with| .inl x=>x.elim| .inr e=>(match aj (ik a) c 0 (e,[],(i64.wrap ((a.reaches.length:Int) - 1)))with| .inl f=>f| .inr g=>default)) | .inr h=>default)
def uM (a:ai)(d:List Claim):Prop:=letI b:=(a.reaches.length:Int);letI c:=a.reaches.length+1;letI e:=((List.replicate a.reaches.length []),0);letI f:=fU a;letI g:=(bQ a d).length;letI h:=i64.wrap (b - 1);letI i:=jp a d;(a.reaches.length<=aD->((b=b/\0<=b/\b*((24:Nat):Int)<=((dh:Nat):Int))/\(b<=((aD:Nat):Int)->(okI f (pt a) c 0 e/\(∀ z_,aj f c 0 e≠ .inr z_)/\(∀ lx,aj f c 0 e=.inl lx->((iV a d)/\(okI i (mh a d) g 0 lx/\(∀ s_1,aj i g 0 lx=.inr s_1->(a.reaches.length<=aD->(okI (ik a) (pu a) c 0 (s_1,[],h)/\(∀ z_,aj (ik a) c 0 (s_1,[],h)≠ .inr z_)))))))))))
@[go_sem] def Ph:FI:=(pD .al λa=>(pR .B1 λb=>(pE (.det (uM a b) (.nw .fault (sF a b))))))
def Ly:P0 prog 145 Ph:=by
 have hG:=mG (cn [.st .al,.sl .B1] sD (cp Gv Q1)) Q1;refine fW hG f145 [(.tmp 4,.fault)] (ap λa0=>(aZ λa1=>(am (λhp=>?_))));dsimp only[an,uM]at hp;refine⟨nbl rfl,(XO 0 (LCV (ρ:=(List (List Int))) (σ:=(List (List Int)×Int)) 2 [] [0,1,1] (λW1 Y=>⟨[(1,.rs .B1 a1),(2,.ptr 0 0),(5,.os 2),(6,.i Y.2)],[.cells (cellsOf .al a0),.dead,.atH .int Y.1]⟩) (fU a0) (pt a0) (a0.reaches.length+1) ((List.replicate a0.reaches.length []),0) (λ_=>.normal) (λX=>⟨[(1,.rs .B1 a1),(2,.ptr 0 0),(5,.os 2)],[.cells (cellsOf .al a0),.dead,.atH .int X]⟩)) (XO 2 (LCR (ρ:=Empty) (σ:=(List (List Int))) 4 [] [0,1,2,3] (λk_1 W=>⟨[(2,.ptr 0 0),(5,.os 2),(7,.os 3),(8,.i k_1)],[.cells (cellsOf .al a0),.dead,.atH .int W,.row .order (bQ a0 a1)]⟩) (jp a0 a1) (mh a0 a1) ((bQ a0 a1).length) (dY (aj (fU a0) (a0.reaches.length+1) 0 ((List.replicate a0.reaches.length []),0))) (True) ((·.elim)) ((·.elim))) (XO 4 (LCV (ρ:=(List G2)) (σ:=(List (List Int)×List G2×Int)) 4 [.slot 10 (.row .fault ([]))] [0,1,2,3,4] (λk_2 E=>⟨[(2,.ptr 0 0),(5,.os 2),(10,.os 4),(11,.i E.2.2)],[.cells (cellsOf .al a0),.dead,.atH .int E.1,.dead,.row .fault E.2.1]⟩) (ik a0) (pu a0) (a0.reaches.length+1) ((cB (aj (jp a0 a1) ((bQ a0 a1).length) 0 (dY (aj (fU a0) (a0.reaches.length+1) 0 ((List.replicate a0.reaches.length []),0))))),[],(i64.wrap ((a0.reaches.length:Int) - 1))) (λ_=>.normal) (λatO=>⟨[(10,.os 4)],[.dead,.dead,.dead,.dead,.row .fault atO]⟩)) L0))),?_,?_⟩
 ·unfold aa f145;simp only[ak,true_and,and_true];refine⟨?_,?_,?_⟩;refine dH aC hG (λ_=>rfl) λW1 Y hq0=>⟨L0,ag _,?_⟩;unfold pt at hq0;exact oR (jl [0,1,4]) (jl [0,1,2]);refine bX ((bQ a0 a1).length<=aD) aC hG (λ_=>rfl) ((bQ a0 a1).length:Int) eE (λhb1 k_1 W auI hq1 hw hc=>⟨L0,ag _,?_⟩) (λhb1 W hc=>?_) λhb1 k_1 W=>?_;simp only[mh,hw,aqa]at hq1
  exact aW (jl [0,1,2,3]);exact aV (jl [0,1,2,3]);exact Ir
  ·refine dH aC hG (λ_=>rfl) λk_2 E hq2=>⟨(XO 6 (LCR (ρ:=Empty) (σ:=(List G2×List (List Int))) 6 [] [0,1,2,3,4,5,4] (λk_3 V=>⟨[(2,.ptr 0 0),(5,.os 2),(10,.os 6),(11,.i E.2.2),(12,.ptr 5 0),(13,.i k_3)],[.cells (cellsOf .al a0),.dead,.atH .int V.2,.dead,.dead,.cells (cellsOf .reach (a0.reaches.getD (Int.toNat E.2.2) (default:Reach))),.row .fault V.1]⟩) (jq a0 E) (jW a0 E) (Int.toNat a0.hours) (E.2.1,E.1) (a0.hours<9223372036854775808) ((·.elim)) ((·.elim))) L0),?_,?_⟩
   ·simp only[ak,true_and,and_true]
    ·refine bG aC hG (λ_=>rfl) a0.hours id (λhb3 k_3 V hlt3 O hw hc=>⟨L0,ag _,?_⟩) (λhb3 V hc=>?_)
     ·unfold jW at O;try simp only[hw,aqa]at O
      simp only[go_sem,hc,hw];all_goals (repeat' (first|with_reducible refine And.intro ?_ ?_|with_reducible intro _))
      all_goals first|((repeat (first|replace O:=O.1 (by assumption) |replace O:=O.2 (by assumption) |replace O:=O (by assumption) |(obtain⟨_,O⟩:=O)));first|assumption|omega) |((repeat (first|refine ad1 (by assumption) ?_|refine ad2 (by assumption) ?_));exact fM (jl [0,1,2,3,4,5,6]) (jl [0,1,2,3,4,5,8]))
     exact kP (jl [0,1,2,3,4,5,6]) (jl [0,1,2,3,4,5,8])
   unfold pu at hq2;exact oR (jl [0,1,2,3,6]) (jl [0,1,2,3,4])
 unfold aa f145;try unfold sF
 exact zq1
@[go_sem] def la (c:List G2)(d:Nat)(a:Int×Int×Int×Int×Int):Empty⊕(Int×Int×Int×Int×Int):=letI b:=c.getD (Int.toNat ((d:Int)+1)) default;(bif((decide (b.hour<a.2.1)) ||((b.hour==a.2.1)&&(decide (b.index > a.2.2.1))))then .inr (b.kind,b.hour,b.index,b.bn,b.limit)else .inr (a.1,a.2.1,a.2.2.1,a.2.2.2.1,a.2.2.2.2))
def oq (b:List G2)(h:Nat)(c:Int×Int×Int×Int×Int):Prop:=letI d:=(h:Int)+1;letI e:=b.getD (Int.toNat d) default;letI a:=0<=d/\d< (b.length:Int);letI f:=decide (e.hour<c.2.1);letI g:=e.hour==c.2.1;(b.length<=aD->(a/\((f=false->a)/\((f=false->(g=true->a))/\((f||(g&&(decide (e.index > c.2.2.1))))=true->a)))))
def Al (c:List G2):G2:=letI a:=c.getD 0 default;(match aj (la c) (c.length - 1) 0 (a.kind,a.hour,a.index,a.bn,a.limit)with| .inl x=>x.elim| .inr b=>({ kind:=b.1,hour:=b.2.1,index:=b.2.2.1,bn:=b.2.2.2.1,limit:=b.2.2.2.2}:G2))
def tj (a:List G2):Prop:=((0<=0/\0< (a.length:Int))/\okI (la a) (oq a) (a.length - 1) 0 ((a.getD 0 default).kind,(a.getD 0 default).hour,(a.getD 0 default).index,(a.getD 0 default).bn,(a.getD 0 default).limit))
@[go_sem] def Lz:FI:=(pR .fault λa=>(pE (.det (tj a) (.agg (cellsOf .fault (Al a))))))
def am4 {p:Prop}(h:p:=by simp only[go_sem,la,hc0,hw0];all_goals exact cl):p:=h
def J_:P0 prog 144 Lz:=by
 have hG:=mG Q1 Q1;refine fN hG f144 [.st .fault] (aZ λE=>(am (λY=>?_)));dsimp only[an,tj]at Y;refine⟨nbl rfl,(XO 0 (λst=>LC (ρ:=Empty) (σ:=Int×Int×Int×Int×Int) (lk 0 st.t=.rs .fault E/\lk 2 st.t=.ptr 0 0/\lk 3 st.t=.ptr 1 0/\lk 4 st.t=.i 1/\st.h=[.cells [.i 0,.i 0,.i 0,.i 0,.i 0],.cells (cellsOf .fault (E.getD 0 (default:G2)))]/\okI (la E) (oq E) (E.length - 1) 0 ((E.getD 0 (default:G2)).kind,(E.getD 0 (default:G2)).hour,(E.getD 0 (default:G2)).index,(E.getD 0 (default:G2)).bn,(E.getD 0 (default:G2)).limit)) (aj (la E) (E.length - 1) 0 ((E.getD 0 (default:G2)).kind,(E.getD 0 (default:G2)).hour,(E.getD 0 (default:G2)).index,(E.getD 0 (default:G2)).bn,(E.getD 0 (default:G2)).limit)) (λx=>x.elim) (λx=>x.elim) (λO=>⟨[(2,.ptr 0 0),(3,.ptr 1 0)],[.cells [.i 0,.i 0,.i 0,.i 0,.i 0],.cells [.i O.1,.i O.2.1,.i O.2.2.1,.i O.2.2.2.1,.i O.2.2.2.2]]⟩)) L0),?_,?_⟩
 ·unfold aa f144;simp only[ak,true_and,and_true]
  ·refine DY mixed aC hG kr λst lc hC Y=>?_;simp only[go_sem,Nat.reduceBEq,aqd]at hC;subst hC;obtain⟨t,h⟩:=st;dsimp only[LC]at Y;obtain⟨e0_0,e0_1,e0_2,e0_3,rfl,hok0⟩:=Y;refine⟨_,_,_,(la E),(oq E),(E.length - 1),((E.getD 0 (default:G2)).kind,(E.getD 0 (default:G2)).hour,(E.getD 0 (default:G2)).index,(E.getD 0 (default:G2)).bn,(E.getD 0 (default:G2)).limit),_,_,_,(λV O=>⟨[(0,.rs .fault E),(2,.ptr 0 0),(3,.ptr 1 0),(4,.i ((V:Int)+1))],[.cells [.i 0,.i 0,.i 0,.i 0,.i 0],.cells [.i O.1,.i O.2.1,.i O.2.2.1,.i O.2.2.2.1,.i O.2.2.2.2]]⟩),[0,1],rfl,hok0,aqb _,?_,λV O hk0 hp0=>?_⟩
   ·simp only[go_sem,e0_0,e0_1,e0_2,e0_3];all_goals (first|done|decide|(repeat' (first|refine And.intro ?_ ?_|rfl|decide)))
   refine⟨L0,?_,?_⟩;simp only[ak,and_self,true_and,and_true]
   ·by_cases hb0:E.length<=aD
    rotate_left
    exact zq7;by_cases X:V< (E.length - 1)
    have hw0:i64.wrap (((V:Nat):Int)+1+1)=((V+1:Nat):Int)+1:=by(have hbb:=hb0;have hll:=X;try unfold aD at hbb);rw[ar XM XM];omega
    have W:=hp0 X;unfold oq at W
    replace W:=W hb0
    try simp only[hw0,aqa]at W
    have hc0:decide (((V:Int)+1) < (E.length:Int))=true:=by simp only[decide_eq_true_eq];omega
    exact am4;have hc0:decide (((V:Int)+1) < (E.length:Int))=false:=by simp only[decide_eq_false_iff_not];omega
    exact zq9
 unfold aa f144;try unfold Al
 exact zq1
@[go_sem] def Am (c:List Order)(d e f:Int)(g:Nat)(b:Int):Empty⊕Int:=letI a:=c.getD g default;(bif((((!a.S2)&&(a.index==d))&&(decide (a.hour>=e)))&&(decide (a.hour<=f)))then .inr (i64.wrap (b+a.bn))else .inr b)
def tZ (a:List Order)(b c d:Int):Int:=(match aj (Am a b c d) a.length 0 0 with| .inl x=>x.elim| .inr e=>e)
@[go_sem] def LA:FI:=(pR .order λa=>(pI λb=>(pI λc=>(pI λd=>(pE (.det True (.i (tZ a b c d))))))))
def Ka:P0 prog 218 LA:=by
 have hG:=mG Q1 Q1;refine fN hG f218 [.o] (aZ λV=>(ax λreach=>(ax λfr=>(ax λto=>(am (λX=>?_))))));dsimp only[an]at X;refine⟨nbl rfl,(XO 0 (LCR (ρ:=Empty) (σ:=Int) 0 [] [] (λO E=>⟨[(0,.rs .order V),(1,.i reach),(2,.i fr),(3,.i to),(9,.i E),(10,.i O)],[]⟩) (Am V reach fr to) pT V.length 0 (True) ((·.elim)) ((·.elim))) L0),?_,?_⟩;unfold aa f218;simp only[ak,true_and,and_true];refine bX (V.length<=aD) aC hG (λ_=>rfl) (V.length:Int) eE (λhb0 O E W _ hw hc=>⟨L0,ag _,aW (jl [])⟩) (λhb0 E hc=>aV (jl [])) λhb0 O E=>zq7;exact Ce @tZ.eq_1
@[go_sem] def y9 (h:ai)(d:List Order)(i e:Nat)(j:Unit):(Int×Int×Int×Int)⊕Unit:=letI a:=h.reaches.getD e default;letI b:=(e:Int);letI c:=(i:Int);letI f:=tZ d b (i64.wrap ((i64.wrap (c - a.delay))+1)) c;letI g:=tZ d b c c;(bif(decide (g > a.cap))then .inl (1,b,g,a.cap)else(bif(decide (f > a.at2))then .inl (3,b,f,a.at2)else .inr ()))
@[go_sem] def y_ (b:ai)(d:List Order)(c:Nat)(e:Unit):(Int×Int×Int×Int×Int)⊕Unit:=(match aj (y9 b d c) b.reaches.length 0 ()with| .inl a=>.inl (a.1,(c:Int),a.2.1,a.2.2.1,a.2.2.2) | .inr f=>.inr ())
def uN (a:ai)(c:List Order):G2×Bool:=letI d:=tZ c 0 0 a.hours;(match aj (y_ a c) (Int.toNat a.hours) 0 ()with| .inl b=>(({ kind:=b.1,hour:=b.2.1,index:=b.2.2.1,bn:=b.2.2.2.1,limit:=b.2.2.2.2}:G2),true) | .inr e=>(bif(decide (d > a.atx.start))then(({ kind:=4,hour:=0,index:=0,bn:=d,limit:=a.atx.start}:G2),true)else(({ kind:=0,hour:=0,index:=0,bn:=0,limit:=0}:G2),false)))
def nU (a:ai)(b:List Order):Prop:=(a.hours<9223372036854775808)
@[go_sem] def Kb:FI:=(pD .al λa=>(pR .order λb=>(pE (.det (nU a b) (.tup [.agg (cellsOf .fault ((uN a b).1)),.v (.bool ((uN a b).2))])))))
def Gw:P0 prog 146 Kb:=by
 have hG:=mG (cn [.sl .order,.o,.o,.o] Ka Q1) Q1;refine fN hG f146 [.st .fault,.o] (ap λa0=>(aZ λa1=>(am (λhp=>?_))));dsimp only[an,nU]at hp;refine⟨nbl rfl,(XO 0 (LCR (ρ:=(Int×Int×Int×Int×Int)) (σ:=Unit) 2 [] [0,1] (λV Y=>⟨[(1,.rs .order a1),(2,.ptr 0 0),(4,.ptr 1 0),(6,.i V)],[.cells (cellsOf .al a0),.cells [.i 0,.i 0,.i 0,.i 0,.i 0]]⟩) (y_ a0 a1) pT (Int.toNat a0.hours) () (a0.hours<9223372036854775808) (λ_=>.ret) (λE=>⟨[(4,.ptr 1 0),(5,.v (.bool true))],[.dead,.cells [.i E.1,.i E.2.1,.i E.2.2.1,.i E.2.2.2.1,.i E.2.2.2.2]]⟩)) L0),?_,?_⟩;unfold aa f146;simp only[ak,true_and,and_true];refine bG aC hG (λ_=>rfl) a0.hours id (λhb0 V Y aue _ hw hc=>⟨(XO 2 (LCR (ρ:=(Int×Int×Int×Int)) (σ:=Unit) 2 [] [0,1] (λW X=>⟨[(1,.rs .order a1),(2,.ptr 0 0),(4,.ptr 1 0),(6,.i V),(7,.i W)],[.cells (cellsOf .al a0),.cells [.i 0,.i 0,.i 0,.i 0,.i 0]]⟩) (y9 a0 a1 V) pT a0.reaches.length () (True) (λ_=>.ret) (λO=>⟨[(4,.ptr 1 0),(5,.v (.bool true))],[.dead,.cells [.i O.1,.i V,.i O.2.1,.i O.2.2.1,.i O.2.2.2]]⟩)) L0),?_,?_⟩) (λhb0 Y hc=>?_);simp only[ak,true_and,and_true];refine bX (a0.reaches.length<=aD) aC hG (λ_=>rfl) (a0.reaches.length:Int) eE (λhb1 W X auI _ hw hc=>⟨L0,ag _,aW (jl [0,1])⟩) (λhb1 X hc=>aV (jl [0,1])) λhb1 W X=>Ir;exact aW (jl [0,1]);exact aV (jl [0,1]);exact Ce @uN.eq_1
def iz (d:ai)(c:List Claim):List Order×G2×Bool×Int:=letI a:=iU d (bQ d c);letI b:=uN d (a.1);(bif((kn d c) !=0)then([],({ kind:=0,hour:=0,index:=0,bn:=0,limit:=0}:G2),false,(kn d c))else(bif(a.2.2 !=0)then([],({ kind:=0,hour:=0,index:=0,bn:=0,limit:=0}:G2),false,a.2.2)else(bif(!a.2.1)then([],(Al (sF d c)),true,0)else(bif b.2 then([],(b.1),true,0)else(a.1,({ kind:=0,hour:=0,index:=0,bn:=0,limit:=0}:G2),false,0)))))
def o_ (d:ai)(c:List Claim):Prop:=letI b:=bQ d c;letI a:=iU d b;((th d c)/\(((kn d c) !=0)=false->((iV d c)/\((uL d b)/\((a.2.2 !=0)=false->(((!a.2.1)=true->((uM d c)/\(tj (sF d c))))/\((!a.2.1)=false->(nU d (a.1)))))))))
@[go_sem] def LB:FI:=(pD .al λd=>(pR .B1 λc=>(pE (.det (o_ d c) (.tup [.rs .order ((iz d c).1),.agg (cellsOf .fault ((iz d c).2.1)),.v (.bool ((iz d c).2.2.1)),.i ((iz d c).2.2.2)])))))
def Kc:P0 prog 87 LB:=fN (mG (cn [.st .al,.sl .B1] J4 (cn [.st .al,.sl .order] Lw (cn [.st .al,.sl .B1] sD (cn [.sl .fault] J_ (cn [.st .al,.sl .B1] Ly (cn [.st .al,.sl .order] Gw Q1)))))) Q1) f87 [.sl .order,.st .fault,.o,.o] (ap λd=>aZ λc=>am λE=>Pq @iz.eq_1 @o_.eq_1)
def nV (d:ai)(c:List Claim):G2×Bool×Int:=(((iz d c).2.1),(iz d c).2.2.1,(iz d c).2.2.2)
def tq (d:ai)(c:List Claim):Prop:=(o_ d c)
@[go_sem] def LD:FI:=(pD .al λd=>(pR .B1 λc=>(pE (.det (tq d c) (.tup [.agg (cellsOf .fault ((nV d c).1)),.v (.bool ((nV d c).2.1)),.i ((nV d c).2.2)])))))
def Ke:P0 prog 40 LD:=fN (mG (cn [.st .al,.sl .B1] Kc Q1) Q1) f40 [.st .fault,.o,.o] (ap λd=>aZ λc=>am λE=>Pq @nV.eq_1 @tq.eq_1)
end Go.Sx
end
section
namespace Go.Sx
open Go.Lib Go.Proofs Go.Shelf Go.Sort
open IntKind (i64)
def Ug (l:UM)(x z:pq)(y:Bool):aF .dd .bool (cy .dd .bool l x y) z=if z=x then y else aF .dd .bool l z:=by
 grind [aF,cy,uV]
def Sf {i:Int}{x:Reach}(h:be i x=true){w:Int}(hw:1<=w):(fw x w).2=(aw x w).2/\((aw x w).2=true->(fw x w).1=(aw x w).1)/\rE x w:=by
 refine⟨?_,?_,λ_=>Sb h w⟩;all_goals
  unfold fw aw;have V:(w==0)=false:=by rw[beq_eq_false_iff_ne];omega
  rw[V];simp only[ar4];by_cases h1:w > 1073741824
  rw[decide_eq_true h1];simp;rw[decide_eq_false h1];simp only[cond_false];rcases MU h (w:=w) XM (XM)with⟨v,E,O⟩ | ⟨E,O⟩;rw[E,O];simp;rw[E,O];simp
section
variable {d:ai}{s1:List G2×WM×UM×Int}{k r:Nat}{u:UM}{F:List G2}{w:WM}
theorem Uh (E:aF .dd .bool u (sl s1.2.2.2 k)=true):az d s1 k (u,F,w)=.inr (cy .dd .bool u (sl (rch d s1.2.2.2).up (i64.wrap ((k:Int) - (rch d s1.2.2.2).delay))) true,F,w):=by
 simp_all [az,sl]
theorem Xz (V:aF .dd .bool u (sl s1.2.2.2 k)=false)(hn:aF .dd .int w (sl s1.2.2.2 k)≠0)
  (O:(aw (rch d s1.2.2.2) (aF .dd .int w (sl s1.2.2.2 k))).2=false\/(k:Int) < (rch d s1.2.2.2).delay):
  az d s1 k (u,F,w)=.inr (cy .dd .bool u (sl (rch d s1.2.2.2).up (i64.wrap ((k:Int) - (rch d s1.2.2.2).delay))) (aF .dd .bool u (sl (rch d s1.2.2.2).up (i64.wrap ((k:Int) - (rch d s1.2.2.2).delay))) || !(aw (rch d s1.2.2.2) (aF .dd .int w (sl s1.2.2.2 k))).2),F++[ltF k s1.2.2.2 (aF .dd .int w (sl s1.2.2.2 k))],w):=by
 unfold az ltF;unfold sl at V hn O |-;generalize X:aF .dd .int w ({ index:=s1.2.2.2,hour:=(k:Int)}:pq)=n at hn O |-;by_cases W:n<=1073741824
 have E:(aw (rch d s1.2.2.2) n).2=(dV (d.reaches.getD (Int.toNat s1.2.2.2) (default:Reach)) n).2.1:=by
  unfold aw;grind
 grind
 have E:(aw (rch d s1.2.2.2) n).2=false:=by
  simp_all [aw]
 grind
def wv (w:WM)(a b:Int):Int:=aF .dd .int w (sl a b)
def uv (u:UM)(a b:Int):Bool:=aF .dd .bool u (sl a b)
theorem abB {a b x y:Int}:sl x y=sl a b↔x=a/\y=b:=by
 grind [sl]
theorem yO (w:WM)(p q v a b:Int):wv (cy .dd .int w (sl p q) v) a b=if a=p/\b=q then v else wv w a b:=by
 unfold wv;rw[nz];by_cases h:a=p/\b=q
 grind
 rw[if_neg h,if_neg (λe=>h (abB.1 e))]
theorem abC (u:UM)(p q:Int)(v:Bool)(a b:Int):uv (cy .dd .bool u (sl p q) v) a b=if a=p/\b=q then v else uv u a b:=by
 unfold uv;rw[Ug];by_cases h:a=p/\b=q
 grind
 rw[if_neg h,if_neg (λe=>h (abB.1 e))]
def ah5 (E:s1.2.2.2=(r:Int))(hw:i64.wrap ((k:Int) - (rch d r).delay)=(k:Int) - (rch d r).delay)(O:uv u r k=true):az d s1 k (u,F,w)=.inr (cy .dd .bool u (sl (rch d r).up ((k:Int) - (rch d r).delay)) true,F,w):=by
 have e:=Uh (d:=d) (s1:=s1) (F:=F) (w:=w) (u:=u) (k:=k) (by rw[E];exact O);grind
def ah6 (E:s1.2.2.2=(r:Int))(O:uv u r k=false)(hn:wv w r k=0):az d s1 k (u,F,w)=.inr (u,F,w):=
 EJ (by rw[E];exact O) (by rw[E];exact hn)
theorem am5 (E:s1.2.2.2=(r:Int))(hw:i64.wrap ((k:Int) - (rch d r).delay)=(k:Int) - (rch d r).delay)(V:uv u r k=false)(hn:wv w r k≠0)(O:(aw (rch d r) (wv w r k)).2=false\/(k:Int) < (rch d r).delay):
  az d s1 k (u,F,w)=.inr (cy .dd .bool u (sl (rch d r).up ((k:Int) - (rch d r).delay)) (uv u (rch d r).up ((k:Int) - (rch d r).delay) || !(aw (rch d r) (wv w r k)).2),F++[ltF k r (wv w r k)],w):=by
 have e:=Xz (d:=d) (s1:=s1) (F:=F) (w:=w) (u:=u) (k:=k) (by rw[E];exact V) (by rw[E];exact hn) (by rw[E];exact O);rw[E,hw]at e;exact e
theorem ah7 (E:s1.2.2.2=(r:Int))(hw:i64.wrap ((k:Int) - (rch d r).delay)=(k:Int) - (rch d r).delay)(V:uv u r k=false)(hn:wv w r k≠0)(O:(aw (rch d r) (wv w r k)).2=true)(W:¬ (k:Int) < (rch d r).delay):
  az d s1 k (u,F,w)=.inr (u,F,cy .dd .int w (sl (rch d r).up ((k:Int) - (rch d r).delay)) (i64.wrap (wv w (rch d r).up ((k:Int) - (rch d r).delay)+(aw (rch d r) (wv w r k)).1))):=by
 have e:=EK (d:=d) (s1:=s1) (F:=F) (w:=w) (u:=u) (k:=k) (by rw[E];exact V) (by rw[E];exact hn) (by rw[E];exact O) XN;rw[E,hw]at e;exact e
structure TB (d:ai)(g:List (List Int))(u:UM)(w:WM)(B:Int):Prop where
 len:g.length=d.reaches.length
 row:∀ a:Nat,a<d.reaches.length->(g.getD a []).length=d.hours.toNat
 cel:∀ a b:Nat,a<d.reaches.length->b<d.hours.toNat->cell g a b=if uv u a b=true then -1 else wv w a b
 lo:∀ a b:Int,0<=wv w a b
 hi:∀ a b:Int,wv w a b<=B
variable {g:List (List Int)}{B:Int}
theorem TB.far (E:TB d g u w B){p q:Int}(h:p<0\/q<0)(b:Bool):TB d g (cy .dd .bool u (sl p q) b) w B:=
 ⟨E.len,E.row,λa c h1 h2=>(by rw[E.cel a c h1 h2,abC,if_neg (show ¬ ((a:Int)=p/\(c:Int)=q) by omega)]),E.lo,E.hi⟩
variable {B':Int}
theorem TB.awA(E:TB d g u w B){p q:Int}(h:p<0\/q<0){v:Int}(O:0<=v)(W:v<=B')(V:B<=B'):TB d g u (cy .dd .int w (sl p q) v) B':=
 ⟨E.len,E.row,λa c h1 h2=>(by rw[E.cel a c h1 h2,yO,if_neg (show ¬ ((a:Int)=p/\(c:Int)=q) by omega)]),
  λa c=>(by rw[yO];have:=E.lo a c;omega),λa c=>(by rw[yO];have:=E.hi a c;omega)⟩
variable {p q:Nat}
theorem M0(h1:g.length=d.reaches.length)(h2:∀ a:Nat,a<d.reaches.length->(g.getD a []).length=d.hours.toNat)(E:p<d.reaches.length)(O:q<d.hours.toNat)(v:Int)(a b:Nat):
  cell (g.set p ((g.getD p []).set q v)) a b=if a=p/\b=q then v else cell g a b:=by
 unfold cell;grind
theorem Sg(h1:g.length=d.reaches.length)(h2:∀ a:Nat,a<d.reaches.length->(g.getD a []).length=d.hours.toNat)(O:p<d.reaches.length)(v:Int)(a:Nat)(E:a<d.reaches.length):
  ((g.set p ((g.getD p []).set q v)).getD a []).length=d.hours.toNat:=by
 grind
theorem TB.bad(E:TB d g u w B)(V:p<d.reaches.length)(W:q<d.hours.toNat):TB d (g.set p ((g.getD p []).set q (-1))) (cy .dd .bool u (sl p q) true) w B:=by
 refine⟨by rw[ark];exact E.len,λa O=>Sg (q:=q) E.len E.row V _ a O,λa b O X=>?_,E.lo,E.hi⟩;rw[M0 E.len E.row V W,abC];by_cases e:a=p/\b=q
 grind
 rw[if_neg e,if_neg (show ¬ ((a:Int)=p/\(b:Int)=q) by omega)];exact E.cel a b O X
theorem TB.mono(E:TB d g u w B)(h:B<=B'):TB d g u w B':=⟨E.len,E.row,E.cel,E.lo,λa b=>ast (E.hi a b) h⟩
theorem TB.good(E:TB d g u w B)(V:p<d.reaches.length)(W:q<d.hours.toNat){n:Int}(n0:0<=n)(hB:B+n<=B')(Y:cell g p q>=0):
  TB d (g.set p ((g.getD p []).set q (cell g p q+n))) u (cy .dd .int w (sl p q) (wv w p q+n)) B':=by
 have hc:=E.cel p q V W;have l1:=E.hi p q;refine⟨by rw[ark];exact E.len,λa O=>Sg (q:=q) E.len E.row V _ a O,λa b O X=>?_,λa b=>?_,λa b=>?_⟩;rw[M0 E.len E.row V W,yO];by_cases e:a=p/\b=q
 grind
 rw[if_neg e,if_neg (show ¬ ((a:Int)=p/\(b:Int)=q) by omega)];exact E.cel a b O X;rw[yO];have:=E.lo a b;omega;rw[yO];have:=E.hi a b;omega
theorem TB.hid(E:TB d g u w B)(V:p<d.reaches.length)(W:q<d.hours.toNat){n:Int}(n0:0<=n)(hB:B+n<=B')(Y:¬cell g p q>=0):
  TB d g u (cy .dd .int w (sl p q) (wv w p q+n)) B':=by
 have hc:=E.cel p q V W;have l0:=E.lo p q;have l1:=E.hi p q;refine⟨E.len,E.row,λa b O X=>?_,λa b=>?_,λa b=>?_⟩;rw[yO];by_cases e:a=p/\b=q
 grind
 rw[if_neg (show ¬ ((a:Int)=p/\(b:Int)=q) by omega)];exact E.cel a b O X;rw[yO];have:=E.lo a b;omega;rw[yO];have:=E.hi a b;omega
def za (d:ai)(r k:Nat)(g:List (List Int))(F:List G2)(ok:Bool)(n:Int):Empty⊕(List G2×List (List Int)):=
 bif(((r:Int) ==0) ||(decide ((k:Int) < (rch d r).delay)))then .inr (F,g)
 else bif(!ok)then .inr (F,g.set (rch d r).up.toNat ((g.getD (rch d r).up.toNat []).set (i64.wrap ((k:Int) - (rch d r).delay)).toNat (-1)))
 else bif decide (cell g (rch d r).up.toNat (i64.wrap ((k:Int) - (rch d r).delay)).toNat>=0)then .inr (F,g.set (rch d r).up.toNat ((g.getD (rch d r).up.toNat []).set (i64.wrap ((k:Int) - (rch d r).delay)).toNat (i64.wrap (cell g (rch d r).up.toNat (i64.wrap ((k:Int) - (rch d r).delay)).toNat+n))))
 else .inr (F,g)
variable {s2:List (List Int)×List G2×Int}
theorem ad3 (E:s2.2.2=(r:Int)):jq d s2 k (F,g)=
  (bif(cell g r k==0)then .inr (F,g)else
   bif decide (cell g r k > 0)then
   (bif((!(fw (rch d r) (cell g r k)).2) ||(decide ((k:Int) < (rch d r).delay)))then za d r k g (F++[ltF k r (cell g r k)]) (fw (rch d r) (cell g r k)).2 (fw (rch d r) (cell g r k)).1
    else za d r k g F (fw (rch d r) (cell g r k)).2 (fw (rch d r) (cell g r k)).1)
   else za d r k g F (decide (cell g r k > 0)) 0):=by
 simp_all [jq,za,ltF,cell]
theorem EZ (F:List G2)(ok:Bool)(n:Int)(h:r=0\/(k:Int) < (rch d r).delay):za d r k g F ok n=.inr (F,g):=by
 unfold za;grind
theorem Sh (F:List G2)(n:Int)(h:¬ (r=0\/(k:Int) < (rch d r).delay)):za d r k g F false n=.inr (F,g.set (rch d r).up.toNat ((g.getD (rch d r).up.toNat []).set (i64.wrap ((k:Int) - (rch d r).delay)).toNat (-1))):=by
 grind [za]
theorem XA (F:List G2)(n:Int)(h:¬ (r=0\/(k:Int) < (rch d r).delay))(hc:cell g (rch d r).up.toNat (i64.wrap ((k:Int) - (rch d r).delay)).toNat>=0):za d r k g F true n=.inr (F,g.set (rch d r).up.toNat ((g.getD (rch d r).up.toNat []).set (i64.wrap ((k:Int) - (rch d r).delay)).toNat (i64.wrap (cell g (rch d r).up.toNat (i64.wrap ((k:Int) - (rch d r).delay)).toNat+n)))):=by
 grind [za]
theorem abD (F:List G2)(n:Int)(h:¬ (r=0\/(k:Int) < (rch d r).delay))(hc:¬cell g (rch d r).up.toNat (i64.wrap ((k:Int) - (rch d r).delay)).toNat>=0):za d r k g F true n=.inr (F,g):=by
 grind [za]
theorem abE (hr:atq d)(E:r<d.reaches.length)(h:r≠0):0<=(rch d r).up/\(rch d r).up< (r:Int):=by
 have O:=(IA (r:Int) (rch d r)).1 (hr.reach r E);omega
theorem ah8 (hr:atq d)(E:r<d.reaches.length)(h:r=0):(rch d r).up= -1:=by
 have O:=(IA (r:Int) (rch d r)).1 (hr.reach r E);omega
theorem XB (hr:atq d)(X:r<d.reaches.length)(hk:k<d.hours.toNat)(hs1:s1.2.2.2=(r:Int))(hs2:s2.2.2=(r:Int))(E:TB d g u w B)(hB:B<=2305843009213693952)(hB0:0<=B):
  ∃ u' T w' g',az d s1 k (u,F,w)=.inr (u',F++T,w')/\jq d s2 k (F,g)=.inr (F++T,g')/\TB d g' u' w' (B+1073741824)/\T.length<=1:=by
 have hH:=hr.hours;have hdy:=qs hr X;have hpre:be (r:Int) (rch d r)=true:=hr.reach r X;have hw:i64.wrap ((k:Int) - (rch d r).delay)=(k:Int) - (rch d r).delay:=ar XM XM;have hc:=E.cel r k X hk;have l0:=E.lo r k;have Y:r=0\/(k:Int) < (rch d r).delay->(rch d r).up<0\/(k:Int) - (rch d r).delay<0:=λh=>by
  rcases h with h|h;have:=ah8 hr X h;omega;omega
 have W:¬ (r=0\/(k:Int) < (rch d r).delay)->∃ p q:Nat,p<d.reaches.length/\q<d.hours.toNat/\(rch d r).up=(p:Int)/\(k:Int) - (rch d r).delay=(q:Int)/\(rch d r).up.toNat=p/\((k:Int) - (rch d r).delay).toNat=q:=λh=>by
  have:=abE hr X (λe=>h (.inl e));exact⟨(rch d r).up.toNat,((k:Int) - (rch d r).delay).toNat,XM,XM,XM,XM,rfl,rfl⟩
 rw[ad3 hs2];by_cases hu:uv u r k=true
 rw[if_pos hu]at hc;have V:=ah5 (d:=d) (F:=F) (w:=w) hs1 hw hu;rw[hc,show decide ((-1:Int) > 0)=false from rfl];simp only[cond_false];by_cases O:r=0\/(k:Int) < (rch d r).delay
 rw[EZ _ _ _ O];exact⟨_,[],w,g,XN,XN,(E.far (Y O) true).mono XM,by simp⟩;rw[Sh _ _ O];have⟨p,q,hp,hq,e2,e3,e4,e5⟩:=W O;exact⟨_,[],w,_,XN,XN,(E.bad hp hq).mono XM,by simp⟩;have hu':uv u r k=false:=XN
 rw[if_neg hu]at hc;by_cases hn:wv w r k=0
 have V:=ah6 (d:=d) (F:=F) hs1 hu' hn;exact⟨u,[],w,g,XN,XN,E.mono XM,by simp⟩;have hc1:1<=cell g r k:=XM
 have⟨i1,i2,_⟩:=Sf hpre hc1;have hio:=AL (i:=(r:Int)) XM hpre hc1;rw[show(cell g r k==0)=false by grind,decide_eq_true (p:=cell g r k > 0) XM];rw[i1];by_cases hb:(aw (rch d r) (cell g r k)).2=false\/(k:Int) < (rch d r).delay
 have V:=am5 (d:=d) (F:=F) hs1 hw hu' hn XN;rw[<-hc]at V;have hbb:((!(aw (rch d r) (cell g r k)).2) ||(decide ((k:Int) < (rch d r).delay)))=true:=by
  grind
 rw[hbb];by_cases O:r=0\/(k:Int) < (rch d r).delay
 rw[EZ _ _ _ O];exact⟨_,_,w,g,V,rfl,(E.far (Y O) _).mono XM,by simp⟩;have hb':(aw (rch d r) (cell g r k)).2=false:=hb.resolve_right λh=>O (.inr h);rw[hb',Sh _ _ O,hw];have⟨p,q,hp,hq,e2,e3,e4,e5⟩:=W O;rw[e4,e5];rw[e2,e3,hb',aqN,Bool.or_true]at V;exact⟨_,_,w,_,V,rfl,(E.bad hp hq).mono XM,by simp⟩;have hg:(aw (rch d r) (cell g r k)).2=true:=by
  grind
 have hkd:¬ (k:Int) < (rch d r).delay:=λh=>hb (.inr h);have V:=ah7 (d:=d) (F:=F) hs1 hw hu' hn XN hkd;rw[<-hc]at V;rw[hg,decide_eq_false hkd,i2 hg];simp only[aqE,Bool.or_self,cond_false];have⟨v,v1,v2,v3,_⟩:=hio.resolve_right λh=>XN
 have l0':=E.lo (rch d r).up ((k:Int) - (rch d r).delay);have l1':=E.hi (rch d r).up ((k:Int) - (rch d r).delay);rw[v1]at V |-;rw[ar XM XM]at V;by_cases O:r=0\/(k:Int) < (rch d r).delay
 rw[EZ _ _ _ O];exact⟨u,[],_,g,by rw[V,aqo],XN,E.awA (Y O) XM XM XM,by simp⟩;have⟨p,q,hp,hq,e2,e3,e4,e5⟩:=W O;have hcp:=E.cel p q hp hq;rw[e2,e3]at V l0' l1';by_cases hx:cell g p q>=0
 rw[XA _ _ O XN,hw,e4,e5];rw[ar XM XM];exact⟨u,[],_,_,by rw[V,aqo],XN,E.good hp hq XM XM hx,by simp⟩;rw[abD _ _ O XN];exact⟨u,[],_,g,by rw[V,aqo],XN,E.hid hp hq XM XM hx,by simp⟩
end
section
variable {d:ai}{s1:List G2×WM×UM×Int}{r:Nat}{s2:List (List Int)×List G2×Int}
theorem ah9 {k:Nat}{u:UM}{F:List G2}{w:WM}{g:List (List Int)}{B:Int}(hr:atq d)(V:r<d.reaches.length)(hk:k<d.hours.toNat)(hs2:s2.2.2=(r:Int))(E:TB d g u w B)(hF:F.length<=1000000):jW d s2 k (F,g):=by
 have hH:=hr.hours;have hH1:=hr.aua;have hdy:=qs hr V;have X:be (r:Int) (rch d r)=true:=hr.reach r V;have hw:i64.wrap ((k:Int) - (rch d r).delay)=(k:Int) - (rch d r).delay:=ar XM XM;have a1:(0:Int)<=(r:Int)/\(r:Int) < (g.length:Int):=by rw[E.len];omega
 have Y:(0:Int)<=(k:Int)/\(k:Int) < ((g.getD r []).length:Int):=by rw[E.row r V];omega
 have key:(((r:Int) ==0) ||(decide ((k:Int) < (rch d r).delay)))=false->(0<=(rch d r).up/\(rch d r).up< (g.length:Int))/\(0<=(k:Int) - (rch d r).delay/\(k:Int) - (rch d r).delay< ((g.getD (rch d r).up.toNat []).length:Int)):=by
  intro h;rw[aqt,beq_eq_false_iff_ne,decide_eq_false_iff_not]at h;have hu:=abE hr V (λe=>h.1 XM);rw[E.len,E.row (rch d r).up.toNat XM];omega
 unfold jW;rw[hs2];simp only[aqa];simp only[show i64.wrap ((k:Int) - (d.reaches.getD r default).delay)=(k:Int) - (d.reaches.getD r default).delay from hw];refine⟨a1,Y,λ_=>⟨a1,Y,⟨λW=>⟨a1,Y,?_,⟨λ_=>⟨a1,Y,?_,λ_ O=>⟨λ_=>key O,λ_=>⟨(key O).1,(key O).2,λ_=>⟨(key O).1,(key O).1,(key O).2,(key O).2⟩⟩⟩⟩,λ_ O=>⟨λ_=>key O,λ_=>⟨(key O).1,(key O).2,λ_=>⟨(key O).1,(key O).1,(key O).2,(key O).2⟩⟩⟩⟩⟩,λ_ O=>⟨λ_=>key O,λ_=>⟨(key O).1,(key O).2,λ_=>⟨(key O).1,(key O).1,(key O).2,(key O).2⟩⟩⟩⟩⟩⟩;simp only[decide_eq_true_eq]at W;exact(Sf X XM).2.2;grind [dh]
def Si (hr:atq d)(O:r<d.reaches.length)(W:s1.2.2.2=(r:Int))(V:s2.2.2=(r:Int)):∀ (n k:Nat) (u:UM) (F:List G2) (w:WM) (g:List (List Int)) (B:Int),k+n=d.hours.toNat->TB d g u w B->0<=B->B+n*1073741824<=2305843009213693952->F.length+n<=1000000->
  ∃ Y F' w' X,aj (az d s1) n k (u,F,w)=.inr (Y,F',w')/\aj (jq d s2) n k (F,g)=.inr (F',X)/\TB d X Y w' (B+n*1073741824)/\F'.length<=F.length+n/\okI (jq d s2) (jW d s2) n k (F,g)
 |0,k,u,F,w,g,B,hk,E,_,_,_=>⟨u,F,w,g,rfl,rfl,E.mono XM,aqb _,trivial⟩
 |n+1,k,u,F,w,g,B,hk,E,hB0,hB,hF=>by
  obtain⟨u1,T,w1,g1,e1,e2,E1,hT⟩:=XB (F:=F) hr O (by omega:k<d.hours.toNat) W V E XM hB0;have hl:(F++T).length<=F.length+1:=XN
  obtain⟨Y,F',w',X,e3,e4,E2,hl2,ok⟩:=Si hr O W V n (k+1) u1 (F++T) w1 g1 (B+1073741824) XM E1 XM XM XM;refine⟨Y,F',w',X,by grind [aj],by grind [aj],E2.mono XM,XM,ah9 hr O XM V E XM,λs' e=>?_⟩;grind
theorem M3 (hr:atq d):∀ (m n j:Nat) (F:List G2) (w:WM) (u:UM) (g:List (List Int)) (B:Int) (N:Nat),N=m*d.hours.toNat->m<n->m<=d.reaches.length->TB d g u w B->0<=B->B+N*1073741824<=2305843009213693952->F.length+N<=1000000->
  ∃ F',aj (cm d) n j (F,w,u,(m:Int) - 1)=.inl F'/\aj (ik d) n j (g,F,(m:Int) - 1)=.inl F'/\okI (ik d) (pu d) n j (g,F,(m:Int) - 1)/\F'.length<=F.length+N
 |m,0,_,_,_,_,_,_,_,_,h,_,_,_,_,_=>absurd h (aru _)
 |0,n+1,j,F,w,u,g,B,N,hN,_,_,E,_,_,_=>by
  refine⟨F,?_,?_,⟨λq=>?_,λs' e=>?_⟩,XM⟩;rfl;rfl;grind
  simp_all [ik]
 |m+1,n+1,j,F,w,u,g,B,N,hN,hmn,hm,E,hB0,hB,hF=>by
  have hH:=hr.hours;have hR:=hr.reaches;have hNN:m*d.hours.toNat+d.hours.toNat=N:=XN
  have O:((m+1:Nat):Int) - 1=(m:Int):=XM
  rw[O];obtain⟨u',F',w',V,e1,X,E1,hl,ok⟩:=Si (s1:=(F,w,u,(m:Int))) (s2:=(g,F,(m:Int))) hr (by omega:m<d.reaches.length) rfl rfl d.hours.toNat 0 u F w g B XM E hB0 XM XM;have hst:ik d j (g,F,(m:Int))=.inr (V,F',(m:Int) - 1):=by
   unfold ik;simp only;rw[decide_eq_true XM,cond_true,X];grind [ar]
  obtain⟨Y,e3,e4,W,hl2⟩:=M3 hr m n (j+1) F' w' u' V (B+d.hours.toNat*1073741824) (m*d.hours.toNat) rfl XM XM E1 XM XM XM;refine⟨Y,?_,?_,⟨λ_=>⟨⟨XN,XN⟩,XM,ok⟩,λs' e=>?_⟩,XM⟩;grind [aj,RO]
  grind [aj]
  grind
theorem fill (hr:atq d):∀ (n j i:Nat) (g:List (List Int)),i<=d.reaches.length->d.reaches.length - i<n->g.length=d.reaches.length->(∀ a,a<i->g.getD a []=List.replicate d.hours.toNat 0)->
  ∃ E,aj (fU d) n j (g,(i:Int))=.inl E/\E.length=d.reaches.length/\(∀ a,a<d.reaches.length->E.getD a []=List.replicate d.hours.toNat 0)/\okI (fU d) (pt d) n j (g,(i:Int))
 |0,_,_,_,_,h,_,_=>absurd h (aru _)
 |n+1,j,i,g,hi,hn,hg,ha=>by
  have Y:=hr.hours;have W:=hr.aua;have X:=hr.reaches;rcases asa hi with V|rfl;have O:fU d j (g,(i:Int))=.inr (g.set i (List.replicate d.hours.toNat 0),((i+1:Nat):Int)):=by
   unfold fU;simp only;rw[hg,decide_eq_true XM,cond_true,ar XM XM,aqa];rfl
  obtain⟨E,e,h1,h2,ok⟩:=fill hr n (j+1) (i+1) (g.set i (List.replicate d.hours.toNat 0)) V XM XN λa h=>by
   rw[yD _ _ _ _ _ XM];grind
  refine⟨E,by grind [aj],h1,h2,λ_ _=>⟨⟨rfl,XM,by unfold dh;omega⟩,λ_=>XN⟩,λs' e'=>?_⟩;grind
  have O:fU d j (g,(d.reaches.length:Int))=.inl g:=by
   simp_all [fU]
  refine⟨g,by unfold aj;rw[O],hg,ha,λ_ q=>?_,λs' e'=>?_⟩ <;>grind
theorem am6 (c:List Claim){out:List Order}(hr:atq d)(ho:atC d out)(O:∀ x∈out,x.S2=true)(he:bQ d c=out):∀ (n i:Nat) (g:List (List Int)) (w:WM),i+n=out.length->TB d g [] w (i*1073741824)->
  ∃ g' w',aj (jp d c) n i g=.inr g'/\aj (d8 out d) n i w=.inr w'/\TB d g' [] w' (out.length*1073741824)/\okI (jp d c) (mh d c) n i g
 |0,i,g,w,hi,E=>⟨g,w,rfl,rfl,E.mono XM,trivial⟩
 |n+1,i,g,w,hi,E=>by
  have hH:=hr.hours;have hH1:=hr.aua;have X:i<out.length:=XM
  have hlen:=ho.len;have W:=ho.one i X;have h0:=W.au6;have h1:=W.hour;have h2:=W.auM;have h3:=W.aut;have h4:=W.bn;have h5:=W.gl (O _ (AJ _ _ X));have hf:=hr.gl (out.getD i default).index.toNat XM;obtain⟨p,hp⟩:∃ p:Nat,(d.zs.getD (out.getD i default).index.toNat default).reach=(p:Int):=⟨(d.zs.getD (out.getD i default).index.toNat default).reach.toNat,XM⟩;obtain⟨q,hq⟩:∃ q:Nat,(out.getD i default).hour=(q:Int):=⟨(out.getD i default).hour.toNat,XM⟩;have V:p<d.reaches.length:=XM
  have Y:q<d.hours.toNat:=XM
  have hc:=E.cel p q V Y;have hu:uv [] (p:Int) (q:Int)=false:=rfl;rw[if_neg (by rw[hu];simp)]at hc;have l0:=E.lo p q;have l1:=E.hi p q;have s1:jp d c i g=.inr (g.set p ((g.getD p []).set q (cell g p q+(out.getD i default).bn))):=by
   unfold jp;rw[he,hp,hq];simp only[aqa];rw[show(g.getD p []).getD q 0=cell g p q from rfl,ar XM XM]
  have s2:d8 out d i w=.inr (cy .dd .int w (sl p q) (wv w p q+(out.getD i default).bn)):=by
   unfold d8;rw[hp,hq];show Sum.inr (cy .dd .int w (sl p q) (i64.wrap (wv w p q+(out.getD i default).bn)))=_;grind [ar]
  have E':=E.good V Y (n:=(out.getD i default).bn) (B':=((i+1:Nat):Int)*1073741824) XM XM XM;obtain⟨g',w',e1,e2,E2,ok⟩:=am6 c hr ho O he n (i+1) _ _ XM E';refine⟨g',w',by grind [aj],by grind [aj],E2,?_,λs' e=>?_⟩;unfold mh;rw[he,hp,hq];simp only[aqa];rw[E.len,E.row p V];omega;grind
theorem ah_ (c:List Claim){out:List Order}(hr:atq d)(X:atC d out)(E:∀ x∈out,x.S2=true)(he:bQ d c=out)(hep:iV d c):
  sF d c=c9 out d/\uM d c/\(c9 out d).length<=500000:=by
 have hH:=hr.hours;have hH1:=hr.aua;have hR:=hr.reaches;have Y:=X.len;obtain⟨V,e0,q1,q2,O⟩:=fill hr (d.reaches.length+1) 0 0 (List.replicate d.reaches.length []) (aqq _) XM arD (λa h=>absurd h (aru _));have E0:TB d V [] [] ((0:Nat)*1073741824):=⟨q1,λa h=>XN,λa b ha hb=>by unfold cell;rw[q2 a ha,J9];rfl,λa b=>(aqO 0:(0:Int)<=0),λa b=>(by show(0:Int)<=_;omega)⟩;obtain⟨g1,w1,e1,e2,E1,ok1⟩:=am6 c hr X E he out.length 0 V [] XM E0;have W:d.reaches.length*d.hours.toNat<=64*4096:=arY hR XM;obtain⟨F',e3,e4,ok2,hl⟩:=M3 hr d.reaches.length (d.reaches.length+1) 0 [] w1 [] g1 (out.length*1073741824) (d.reaches.length*d.hours.toNat) rfl XM (aqb _) E1 XM XM XN;have hw:i64.wrap ((d.reaches.length:Int) - 1)=(d.reaches.length:Int) - 1:=ar XM XM;have ht:c9 out d=F':=by
  grind [c9]
 rw[show((0:Nat):Int)=0 from rfl]at e0 O;refine⟨?_,λ_=>⟨⟨rfl,XM,by unfold dh;omega⟩,λ_=>⟨O,λz hz=>XN,λx hx=>?_⟩⟩,?_⟩;grind [sF]
 grind
 grind
end
def XC {L:List G2}(h:L≠[]):tj L:=by
 have:0<L.length:=aqS.2 h;exact⟨⟨XM,XM⟩,eu _ _ _ λj s _ E _=>XM⟩
def Kf (d:ai)(c:List Claim):(nV d c).2.2=(bM d c).2.2/\tq d c:=by
 have⟨k1,k2⟩:=ad0 d c;show(iz d c).2.2.2=(b_ d c).2.2/\o_ d c;by_cases O:auJ d c
 ·have X:=EM O;have V:=O.nar;have E:=O.outs.out;have hr:=V.good.right;have Y:=V.good.auD;have⟨o1,o2⟩:=MZ O.chk;have⟨p1,p2⟩:=ah4 d (aA c);have k0:kn d c=0:=by rw[k1,X]
  have⟨q1,q2,_⟩:=ah_ c hr Y E o1 o2;have hb:∀ l,nU d l:=λl=>by have:=hr.hours;unfold nU;omega
  have hP:aH d (aA c)=([],false,0)\/(∃ l,aH d (aA c)=(l,true,0))\/aH d (aA c)=([],false,2):=by
   rcases BX d (aA c)with⟨q,_⟩ | ⟨_,q,_⟩ | ⟨_,_,hx,e⟩ | ⟨_,_,gs,hF,hlen,e⟩ | ⟨_,_,gs,hP,e⟩;exact absurd ((vY _ _).2 V) q;grind
   exact .inl e;grind
   exact .inr (.inl ⟨_,e⟩)
  unfold iz o_ b_;rw[k0,o1,p1,X];simp only[bne_self_eq_false,cond_false];rcases hP with e| ⟨l,e⟩ |e;have W:=adG hr Y E (by rw[e]) (by rw[e]);have f2:=XC W;grind
  ·all_goals grind
  rw[e];simp only[show((2:Int) !=0)=true from rfl,cond_true];exact⟨trivial,k2,λ_=>⟨o2,p2,λq=>by cases q⟩⟩
 have hn:(aO d c).2≠0:=λh=>O (AO.1 h);have hb:((aO d c).2 !=0)=true:=XN
 unfold iz b_;rw[k1,hb];simp only[cond_true];exact⟨trivial,k2,λq=>XN⟩
end Go.Sx
end
section
namespace Go.Sx
open Go.Proofs Tryz
open IntKind (i64)
@[go_sem] def wK (c:List Claim)(d:List Int)(a:Nat)(b:List Claim):Empty⊕(List Claim):=(bif(jV d ((c.getD a default).right))then .inr (b++([(c.getD a default)]))else .inr b)
def tt (c:List Claim)(b:List Int)(a:Nat)(d:List Claim):Prop:=(c.length<=aD->((jV b ((c.getD a default).right))=true->((d++([(c.getD a default)])).length*40<=dh)))
def xP (c:List Claim)(a:List Int):List Claim:=(match aj (wK c a) c.length 0 ([])with| .inl x=>x.elim| .inr b=>b)
def yP (c:List Claim)(a:List Int):Prop:=okI (wK c a) (tt c a) c.length 0 ([])
@[go_sem] def Ui:FI:=(pR .B1 λc=>(pR .int λa=>(pE (.det (yP c a) (.rs .B1 (xP c a))))))
def Sj:P0 prog 39 Ui:=by
 have hG:=mG (cn [.sl .int,.o] yK Q1) Q1;refine fN hG f39 [.sl .B1] (aZ λc=>(aZ λE=>(am (λX=>?_))));dsimp only[an,yP]at X;refine⟨nbl rfl,(XO 0 (LCR (ρ:=Empty) (σ:=(List Claim)) 0 [.slot 5 (.row .B1 ([]))] [0] (λV O=>⟨[(0,.rs .B1 c),(1,.rs .int E),(5,.os 0),(6,.i V)],[.row .B1 O]⟩) (wK c E) (tt c E) c.length ([]) (True) ((·.elim)) ((·.elim))) L0),?_,?_⟩;unfold aa f39;simp only[ak,true_and,and_true];refine bX (c.length<=aD) aC hG (λ_=>rfl) (c.length:Int) eE (λhb0 V O Y W hw hc=>⟨L0,ag _,?_⟩) (λhb0 O hc=>?_) λhb0 V O=>?_;simp only[tt,hw,aqa]at W
 exact lZ (jl [2]) (jl [0]);exact kP (jl [2]) (jl [0]);exact zq7;exact Ce @xP.eq_1
def jX (d:ai)(c:List bo)(e f g:Int):List Claim×Int:=letI a:=kU d c e f g;letI b:=nV d (a.1);(bif(a.2 !=0)then([],a.2)else(bif(b.2.2 !=0)then([],b.2.2)else(bif(decide (((gH d (a.1)).length:Int) > 10))then([],2)else(a.1,0))))
def An (d:ai)(b:List bo)(c e f:Int):Prop:=letI a:=kU d b c e f;((vL d b c e f)/\((a.2 !=0)=false->((tq d (a.1))/\(((nV d (a.1)).2.2 !=0)=false->(jG d (a.1))))))
@[go_sem] def Sk:FI:=(pD .al λd=>(pR .C1 λa=>(pI λb=>(pI λc=>(pI λe=>(pE (.det (An d a b c e) (.tup [.rs .B1 ((jX d a b c e).1),.i ((jX d a b c e).2)]))))))))
def Pi:P0 prog 37 Sk:=fN (mG (cn [.st .al,.sl .C1,.o,.o,.o] Ft (cn [.st .al,.sl .B1] ui (cn [.st .al,.sl .B1] Ke Q1))) Q1) f37 [.sl .B1,.o] (ap λd=>aZ λO=>ax λfr=>ax λto=>ax λknown=>am λE=>Pq @jX.eq_1 @An.eq_1)
@[go_sem] def ld (d:ai)(c:List Claim)(b e:Int)(a:Nat)(f:Int):Empty⊕Int:=(bif(((c.getD a default).hour==e)&&((d.zs.getD (Int.toNat ((c.getD a default).gl)) default).reach==b))then .inr (i64.wrap (f+(c.getD a default).bn))else .inr f)
def pP (d:ai)(c:List Claim)(e b:Int)(a:Nat)(f:Int):Prop:=(c.length<=aD->(((c.getD a default).hour==b)=true->(0<=(c.getD a default).gl/\(c.getD a default).gl< (d.zs.length:Int))))
def kE (d:ai)(c:List Claim)(a b:Int):Int:=(match aj (ld d c a b) c.length 0 0 with| .inl x=>x.elim| .inr e=>e)
def uj (d:ai)(c:List Claim)(a b:Int):Prop:=okI (ld d c a b) (pP d c a b) c.length 0 0
@[go_sem] def Gx:FI:=(pD .al λd=>(pR .B1 λc=>(pI λa=>(pI λb=>(pE (.det (uj d c a b) (.i (kE d c a b))))))))
def E3:P0 prog 89 Gx:=by
 have hG:=mG Q1 Q1;refine fN hG f89 [.o] (ap λd=>(aZ λc=>(ax λreach=>(ax λhour=>(am (λW=>?_))))));dsimp only[an,uj]at W;refine⟨nbl rfl,(XO 0 (LCR (ρ:=Empty) (σ:=Int) 1 [] [0] (λO E=>⟨[(1,.rs .B1 c),(2,.i reach),(3,.i hour),(4,.ptr 0 0),(9,.i E),(10,.i O)],[.cells (cellsOf .al d)]⟩) (ld d c reach hour) (pP d c reach hour) c.length 0 (True) ((·.elim)) ((·.elim))) L0),?_,?_⟩;unfold aa f89;simp only[ak,true_and,and_true];refine bX (c.length<=aD) aC hG (λ_=>rfl) (c.length:Int) eE (λhb0 O E X V hw hc=>⟨L0,ag _,?_⟩) (λhb0 E hc=>?_) λhb0 O E=>?_;simp only[pP,hw,aqa]at V
 exact aW (jl [0]);exact aV (jl [0]);exact zq7;exact Ce @kE.eq_1
@[go_sem] def mj (d:ai)(a:List S1)(c e:Int)(b:Nat)(f:Int):Empty⊕Int:=(bif(((d.reaches.getD (Int.toNat ((a.getD b default).reach)) default).up==c)&&((a.getD b default).hour==e))then .inr (i64.wrap (f+(a.getD b default).bn))else .inr f)
def rF (d:ai)(a:List S1)(b e:Int)(c:Nat)(f:Int):Prop:=(a.length<=aD->(0<=(a.getD c default).reach/\(a.getD c default).reach< (d.reaches.length:Int)))
def lT (d:ai)(c:List Claim)(a:List S1)(b e:Int):Int:=(match aj (mj d a b e) a.length 0 (kE d c b e)with| .inl x=>x.elim| .inr f=>f)
def rG (d:ai)(c:List Claim)(e:List S1)(a b:Int):Prop:=((uj d c a b)/\okI (mj d e a b) (rF d e a b) e.length 0 (kE d c a b))
@[go_sem] def Kg:FI:=(pD .al λd=>(pR .B1 λc=>(pR .ath λa=>(pI λb=>(pI λe=>(pE (.det (rG d c a b e) (.i (lT d c a b e)))))))))
def zb:P0 prog 95 Kg:=by
 have hG:=mG (cn [.st .al,.sl .B1,.o,.o] E3 Q1) Q1;refine fN hG f95 [.o] (ap λd=>(aZ λc=>(aZ λV=>(ax λreach=>(ax λhour=>(am (λY=>?_)))))));dsimp only[an,rG]at Y;refine⟨nbl rfl,(XO 0 (LCR (ρ:=Empty) (σ:=Int) 1 [] [0] (λO E=>⟨[(2,.rs .ath V),(3,.i reach),(4,.i hour),(5,.ptr 0 0),(11,.i E),(12,.i O)],[.cells (cellsOf .al d)]⟩) (mj d V reach hour) (rF d V reach hour) V.length (kE d c reach hour) (True) ((·.elim)) ((·.elim))) L0),?_,?_⟩;unfold aa f95;simp only[ak,true_and,and_true];refine bX (V.length<=aD) aC hG (λ_=>rfl) (V.length:Int) eE (λhb0 O E X W hw hc=>⟨L0,ag _,?_⟩) (λhb0 E hc=>?_) λhb0 O E=>?_;simp only[rF,hw,aqa]at W
 exact aW (jl [0]);exact aV (jl [0]);exact zq7;exact Ce @lT.eq_1
def lU (d:ai)(x:S1):Bool:=((((((decide (x.reach>=0))&&(decide (x.reach< (d.reaches.length:Int))))&&(decide (x.hour>=0)))&&(decide (x.hour<d.hours)))&&(decide (x.bn>=1)))&&(decide (x.bn<=1073741824)))
@[go_sem] def Kh:FI:=(pD .al λd=>(pD .ath λx=>(pE (.det True (.v (.bool (lU d x)))))))
def Gy:P0 prog 94 Kh:=fN (mG Q1 Q1) f94 [.o] (ap λd=>ap λx=>am λE=>Ko @lU.eq_1)
@[go_sem] def iL (a:List S1)(b c:Nat)(d:Unit):Unit⊕Unit:=(bif(((a.getD c default).reach==(a.getD b default).reach)&&((a.getD c default).hour==(a.getD b default).hour))then .inl ()else .inr ())
def oF (b:List S1)(c a:Nat)(d:Unit):Prop:=((0<=(a:Int)/\(a:Int) < (b.length:Int))/\(((b.getD a default).reach==(b.getD c default).reach)=true->(0<=(a:Int)/\(a:Int) < (b.length:Int))))
@[go_sem] def fH (c:ai)(b:List S1)(a:Nat)(d:Unit):Unit⊕Unit:=(bif(!(lU c (b.getD a default)))then .inl ()else(match aj (iL b a) (Int.toNat (a:Int)) 0 ()with| .inl e=>.inl () | .inr f=>.inr ()))
def oG (c:ai)(b:List S1)(a:Nat)(d:Unit):Prop:=(b.length<=aD->((!(lU c (b.getD a default)))=false->(((a:Int) <9223372036854775808)/\okI (iL b a) (oF b a) (Int.toNat (a:Int)) 0 ())))
@[go_sem] def iM (c:ai)(e:List Claim)(d:List S1)(f:Nat)(g:Unit):Unit⊕Unit:=letI a:=d.getD f default;letI b:=c.reaches.getD (Int.toNat (a.reach)) default;(bif((decide (a.wanted<=0)) ||(a.wanted !=(lT c e d (a.reach) (i64.wrap (a.hour+b.delay)))))then .inl ()else(bif((a.bn !=b.atz)&&(decide ((lr b (i64.wrap (a.bn - 1))).1>=a.wanted)))then .inl ()else .inr ()))
def oH (b:ai)(d:List Claim)(c:List S1)(h:Nat)(i:Unit):Prop:=letI a:=c.getD h default;letI e:=b.reaches.getD (Int.toNat (a.reach)) default;letI f:=i64.wrap (a.hour+e.delay);letI g:=decide (a.wanted<=0);(c.length<=aD->((0<=a.reach/\a.reach< (b.reaches.length:Int))/\((g=false->(rG b d c (a.reach) f))/\((g||(a.wanted !=(lT b d c (a.reach) f)))=false->(o9 e (i64.wrap (a.bn - 1)))))))
def jI (b:ai)(c:List Claim)(a:List S1):Bool:=(match aj (fH b a) a.length 0 ()with| .inl d=>false| .inr e=>(match aj (iM b c a) a.length 0 ()with| .inl f=>false| .inr g=>true))
def ot (b:ai)(c:List Claim)(a:List S1):Prop:=(okI (fH b a) (oG b a) a.length 0 ()/\(∀ ee,aj (fH b a) a.length 0 ()=.inr ee->okI (iM b c a) (oH b c a) a.length 0 ()))
@[go_sem] def E4:FI:=(pD .al λa=>(pR .B1 λb=>(pR .ath λc=>(pE (.det (ot a b c) (.v (.bool (jI a b c))))))))
def am7 {p:Prop}(h:p:=by simp only[go_sem,hb2]):p:=h
def DD:P0 prog 54 E4:=by
 have hG:=mG (cn [.st .al,.st .ath] Gy (cn [.st .al,.sl .B1,.sl .ath,.o,.o] zb (cp Aj Q1))) Q1;refine fN hG f54 [.o] (ap λa0=>(aZ λa1=>(aZ λO=>(am (λhp=>?_)))));dsimp only[an,ot]at hp;refine⟨nbl rfl,(XO 0 (LCR (ρ:=Unit) (σ:=Unit) 1 [] [0] (λE V=>⟨[(1,.rs .B1 a1),(2,.rs .ath O),(3,.ptr 0 0),(7,.i E)],[.cells (cellsOf .al a0)]⟩) (fH a0 O) (oG a0 O) O.length () (True) (λ_=>.ret) (λlx=>⟨[(6,.v (.bool false))],[.dead]⟩)) (XO 4 (LCR (ρ:=Unit) (σ:=Unit) 1 [] [0] (λX W=>⟨[(1,.rs .B1 a1),(2,.rs .ath O),(3,.ptr 0 0),(9,.i X)],[.cells (cellsOf .al a0)]⟩) (iM a0 a1 O) (oH a0 a1 O) O.length () (True) (λ_=>.ret) (λatO=>⟨[(6,.v (.bool false))],[.dead]⟩)) L0)),?_,?_⟩;unfold aa f54;simp only[ak,true_and,and_true];refine⟨?_,?_⟩;refine bX (O.length<=aD) aC hG (λ_=>rfl) (O.length:Int) eE (λhb0 E V aue Y hw hc=>⟨(XO 2 (LCR (ρ:=Unit) (σ:=Unit) 1 [] [0] (λk_1 s_1=>⟨[(1,.rs .B1 a1),(2,.rs .ath O),(3,.ptr 0 0),(7,.i E),(8,.i k_1)],[.cells (cellsOf .al a0)]⟩) (iL O E) (oF O E) (Int.toNat (E:Int)) () ((E:Int) <9223372036854775808) (λ_=>.ret) (λatG=>⟨[(6,.v (.bool false))],[.dead]⟩)) L0),?_,?_⟩) (λhb0 V hc=>?_) λhb0 E V=>?_;simp only[ak,true_and,and_true];refine bG aC hG (λ_=>rfl) (E:Int) id (λhb1 k_1 s_1 auI hq1 hw hc=>⟨L0,ag _,?_⟩) (λhb1 s_1 hc=>?_);simp only[oF,hw,aqa]at hq1
 exact aW (jl [0]);exact aV (jl [0]);simp only[oG,hw,aqa]at Y
 exact aW (jl [0]);exact aV (jl [0]);exact zq7;refine bX (O.length<=aD) aC hG (λ_=>rfl) (O.length:Int) eE (λhb2 X W hlt2 hq2 hw hc=>⟨L0,ag _,?_⟩) (λhb2 W hc=>?_) λhb2 X W=>?_;simp only[oH,hw,aqa]at hq2
 exact aW (jl [0]);exact aV (jl [0]);exact am7;exact Ce @jI.eq_1
@[go_sem] def uO (a:List S1)(c e f:Int)(b:Nat)(d:Int):Empty⊕Int:=(bif((((a.getD b default).reach==c)&&(decide ((a.getD b default).hour>=e)))&&(decide ((a.getD b default).hour<=f)))then .inr (i64.wrap (d+(a.getD b default).bn))else .inr d)
def sG (a:List S1)(b c d:Int):Int:=(match aj (uO a b c d) a.length 0 0 with| .inl x=>x.elim| .inr e=>e)
@[go_sem] def Sl:FI:=(pR .ath λa=>(pI λb=>(pI λc=>(pI λd=>(pE (.det True (.i (sG a b c d))))))))
def Pj:P0 prog 97 Sl:=by
 have hG:=mG Q1 Q1;refine fN hG f97 [.o] (aZ λV=>(ax λreach=>(ax λfr=>(ax λto=>(am (λX=>?_))))));dsimp only[an]at X;refine⟨nbl rfl,(XO 0 (LCR (ρ:=Empty) (σ:=Int) 0 [] [] (λO E=>⟨[(0,.rs .ath V),(1,.i reach),(2,.i fr),(3,.i to),(9,.i E),(10,.i O)],[]⟩) (uO V reach fr to) pT V.length 0 (True) ((·.elim)) ((·.elim))) L0),?_,?_⟩;unfold aa f97;simp only[ak,true_and,and_true];refine bX (V.length<=aD) aC hG (λ_=>rfl) (V.length:Int) eE (λhb0 O E W _ hw hc=>⟨L0,ag _,aW (jl [])⟩) (λhb0 E hc=>aV (jl [])) λhb0 O E=>zq7;exact Ce @sG.eq_1
def rH (b:ai)(e:List Claim)(a:atp):Bool:=letI c:=b.reaches.getD (Int.toNat a.reach) default;letI d:=lT b e a.atf a.reach a.hour;(bif((decide (a.reach<0)) ||(decide (a.reach>=(b.reaches.length:Int))))then false else(bif(a.kind==4)then(((a.reach==0)&&(a.hour==0))&&(decide ((sG a.atf 0 0 b.hours) > b.atx.start)))else(bif((decide (a.hour<0)) ||(decide (a.hour>=b.hours)))then false else(bif(a.kind==1)then(decide ((sG a.atf a.reach a.hour a.hour) > c.cap))else(bif(a.kind==3)then(decide ((sG a.atf a.reach (i64.wrap ((i64.wrap (a.hour - c.delay))+1)) a.hour) > c.at2))else(bif(a.kind==7)then(((decide (d > 0))&&(decide (a.hour<c.delay))) ||(decide (d > (lr c 1073741824).1)))else false))))))
def v8 (b:ai)(d:List Claim)(a:atp):Prop:=letI c:=(b.reaches.length:Int);(((decide (a.reach<0)) ||(decide (a.reach>=c)))=false->((0<=a.reach/\a.reach<c)/\((a.kind==4)=false->(((decide (a.hour<0)) ||(decide (a.hour>=b.hours)))=false->((a.kind==1)=false->((a.kind==3)=false->((a.kind==7)=true->((rG b d a.atf a.reach a.hour)/\(o9 (b.reaches.getD (Int.toNat a.reach) default) 1073741824)))))))))
@[go_sem] def Ki:FI:=(pD .al λa=>(pR .B1 λb=>(pD .refusal λc=>(pE (.det (v8 a b c) (.v (.bool (rH a b c))))))))
def Gz:P0 prog 55 Ki:=fN (mG (cn [.st .al,.sl .B1,.sl .ath,.o,.o] zb (cp Aj (cn [.sl .ath,.o,.o,.o] Pj Q1))) Q1) f55 [.o] (ap λa0=>aZ λa1=>ap λO=>am λE=>Pq @rH.eq_1 @v8.eq_1)
@[go_sem] def jJ (b:ai)(e:List bo)(f g h:Int)(c:atp)(a:Nat)(i:Unit):Unit⊕Unit:=letI d:=c.bl.getD a 0;(bif((!(jV (gH b ((jX b e f g h).1)) d)) ||((decide ((a:Int) > 0))&&(decide (d<=(c.bl.getD (Int.toNat (i64.wrap ((a:Int) - 1))) 0)))))then .inl ()else .inr ())
def ou (c:ai)(e:List bo)(f g h:Int)(a:atp)(b:Nat)(i:Unit):Prop:=letI d:=i64.wrap ((b:Int) - 1);(a.bl.length<=aD->((!(jV (gH c ((jX c e f g h).1)) (a.bl.getD b 0)))=false->((decide ((b:Int) > 0))=true->(0<=d/\d< (a.bl.length:Int)))))
def qt (b:ai)(d:List bo)(e f g:Int)(a:atp):Bool×Int:=letI c:=jX b d e f g;letI h:=xP (c.1) a.bl;(bif(c.2 !=0)then(false,c.2)else(match aj (jJ b d e f g a) a.bl.length 0 ()with| .inl i=>(false,290) | .inr j=>(((jI b h a.atf)&&(rH b h a)),0)))
def tu (b:ai)(c:List bo)(d e f:Int)(a:atp):Prop:=letI g:=jX b c d e f;letI h:=xP (g.1) a.bl;letI i:=jJ b c d e f a;((An b c d e f)/\((g.2 !=0)=false->((jG b (g.1))/\(okI i (ou b c d e f a) a.bl.length 0 ()/\(∀ ee,aj i a.bl.length 0 ()=.inr ee->((yP (g.1) a.bl)/\((ot b h a.atf)/\((jI b h a.atf)=true->(v8 b h a)))))))))
@[go_sem] def LF:FI:=(pD .al λa=>(pR .C1 λb=>(pI λc=>(pI λd=>(pI λe=>(pD .refusal λf=>(pE (.det (tu a b c d e f) (.tup [.v (.bool ((qt a b c d e f).1)),.i ((qt a b c d e f).2)])))))))))
def Kj:P0 prog 16 LF:=by
 have hG:=mG (cn [.st .al,.sl .B1] ui (cn [.st .al,.sl .C1,.o,.o,.o] Pi (cn [.sl .B1,.sl .int] Sj (cn [.sl .int,.o] yK (cn [.st .al,.sl .B1,.sl .ath] DD (cn [.st .al,.sl .B1,.st .refusal] Gz Q1)))))) Q1;refine fN hG f16 [.o,.o] (ap λa0=>(aZ λa1=>(ax λY=>(ax λa3=>(ax λX=>(ap λV=>(am (λhp=>?_))))))));dsimp only[an,tu]at hp;refine⟨nbl rfl,(XO 0 (LCR (ρ:=Unit) (σ:=Unit) 2 [] [0,1] (λE O=>⟨[(6,.ptr 0 0),(11,.ptr 1 0),(14,.rs .B1 ((jX a0 a1 Y a3 X).1)),(16,.rs .int (gH a0 ((jX a0 a1 Y a3 X).1))),(17,.i E)],[.cells (cellsOf .al a0),.cells (cellsOf .refusal V)]⟩) (jJ a0 a1 Y a3 X V) (ou a0 a1 Y a3 X V) V.bl.length () (True) (λ_=>.ret) (λlx=>⟨[(12,.v (.bool false)),(13,.i 290)],[.dead,.dead]⟩)) L0),?_,?_⟩;unfold aa f16;simp only[ak,true_and,and_true];refine bX (V.bl.length<=aD) aC hG (λ_=>rfl) (V.bl.length:Int) eE (λhb0 E O aue W hw hc=>⟨L0,ag _,?_⟩) (λhb0 O hc=>?_) λhb0 E O=>?_;simp only[ou,hw,aqa]at W
 exact aW (jl [0,1]);exact aV (jl [0,1]);exact zq7;exact Ce @qt.eq_1
def gT (d:ai)(a:List bo)(b c e:Int)(r:atp):Bool:=letI f:=dO d a b c e r;letI g:=qt d a b c e r;(bif(!sw)then false else(bif((!(xM d a b c e)) ||(!(u4 r)))then true else((f.1==g.1)&&(f.2==g.2))))
def iN (d:ai)(a:List bo)(b c e:Int)(r:atp):Prop:=((uJ)/\((!sw)=false->((wI d a b c e)/\(((!(xM d a b c e)) ||(!(u4 r)))=false->((iv d a b c e r)/\(tu d a b c e r))))))
@[go_sem] def lg:FI:=(pD .al λd=>(pR .C1 λa=>(pI λb=>(pI λc=>(pI λe=>(pD .refusal λr=>(pE (.det (iN d a b c e r) (.v (.bool (gT d a b c e r)))))))))))
def wW:P0 prog 4 lg:=fN (mG (cp Lm (cn [.st .al,.sl .C1,.o,.o,.o] O5 (cn [.st .refusal] O4 (cn [.st .al,.sl .C1,.o,.o,.o,.st .refusal] y6 (cn [.st .al,.sl .C1,.o,.o,.o,.st .refusal] Kj Q1))))) Q1) f4 [.o] (ap λd=>aZ λO=>ax λfr=>ax λto=>ax λknown=>ap λr=>am λE=>Pq @gT.eq_1 @iN.eq_1)
def Pm (l:List Int)(n:Int):jV l n=l.any λx=>x==n:=by
 have:=amX (step:=yJ l n) (0:Int) (λx=>x==n) l [] λk=>⟨(),rfl⟩;grind [jV]
def Sm (l:List Int)(n:Int):(l.any λx=>x==n)=l.any λy=>n==y:=by
 grind
variable {c:List Claim}
def VP(hc:c.length<=4096)(l:List Int):yP c l/\xP c l=flt c l:=by
 have:=abr (step:=wK c l) (p:=tt c l) (λx=>jV l x.right) c [] [] (λk s=>rfl) (λk s E _ _=>by grind [dh]) XN;refine⟨this.2,?_⟩;unfold xP;rw[aqJ]at this;rw[this.1];simp only[aqs];refine List.filter_congr λx _=>?_;rw[Pm,abn,Bool.not_not,Sm]
def VQ (c:List Claim)(k:Nat):∀ (L K:List Claim) (s:List Int),c=K++L->aj (d_ c k) L.length K.length s=.inr (if(L.any λx=>x.right==(k:Int))=true/\(k:Int) ∉ s then s++[(k:Int)]else s)
 | [],K,s,_=>by simp[aj]
 |x::L,K,s,h=>by
  have g:c.getD K.length default=x:=by rw[h];simp
  have E:=λs=>VQ c k L (K++[x]) s (by simpa using h);rw[aqc,aj];unfold d_;simp only[g,Pm];rw[aqk,aqc,aqJ,aqu]at E;unfold d_ at E;simp only[Pm]at E;grind
def Pn (d:ai)(c:List Claim):(gH d c).Pairwise (· < ·)/\∀ n:Int,n∈gH d c↔(∃ x∈c,x.right=n)/\0<=n/\n< (d.bl.length:Int):=by
 have E:∀ j (s:List Int),iT d c j s=.inr (if(c.any λx=>x.right==(j:Int))=true/\(j:Int) ∉ s then s++[(j:Int)]else s):=λj s=>by
  unfold iT;rw[show aj (d_ c j) c.length 0 s=_ from VQ c j c [] s rfl]
 obtain⟨r,e,h1,h2⟩:=i_ (step:=iT d c) (λj (s:List Int) =>s.Pairwise (· < ·)/\∀ n:Int,n∈s↔(∃ x∈c,x.right=n)/\0<=n/\n< (j:Int)) d.bl.length 0 [] ⟨.nil,λn=>⟨λh=>(by cases h),λh=>XM⟩⟩ (λj s _ O ⟨h1,h2⟩ =>by
  grind)
 simp_all [gH]
theorem abF:∀ (a b:List Int),a.Pairwise (· < ·)->b.Pairwise (· < ·)->(∀ n,n∈a↔n∈b)->a=b
 | [],[],_,_,_=>rfl
 | [],y::b,_,_,h=>by have:=(h y).2 aqh;cases this
 |x::a,[],_,_,h=>by have:=(h x).1 aqh;cases this
 |x::a,y::b,V,X,h=>by
  have O:=aqR.1 V;have E:=aqR.1 X;have e:x=y:=by
   have h1:=aqg.1 ((h x).1 aqh);have h2:=aqg.1 ((h y).2 aqh);rcases h1 with h1|h1;exact h1;rcases h2 with h2|h2;exact h2.symm;have:=E.1 x h1;have:=O.1 y h2;omega
  subst e;rw[abF a b O.2 E.2 λn=>?_];have:=h n;constructor
  intro hn;have W:=O.1 n hn;rcases aqg.1 (this.1 (aqj _ hn))with q|q;omega;exact q;intro hn;have W:=E.1 n hn;rcases aqg.1 (this.2 (aqj _ hn))with q|q;omega;exact q
theorem Uj {s:M1}{n:Int}(h:n∈ay s):∃ x∈s.c,x.right=n:=by
 rw[B8]at h;unfold cpI Lib.compact at h;obtain⟨j,_,e⟩:=aq1.1 h;have E:j< (yc (s.c.map λx=>x.right)).length:=XN
 have:n∈yc (s.c.map λx=>x.right):=XN
 simp_all [yc]
def Sn{d:ai}(h:b9 d c=0):gH d c=rts d c:=by
 obtain⟨h1,h2⟩:=Pn d c;refine abF _ _ h1 (Xs _) λn=>?_;rw[h2];constructor
 rintro⟨⟨x,E,rfl⟩,_⟩;exact JU (s:= { d:=d,c:=c}) E;intro hn;obtain⟨x,E,e⟩:=Uj hn;have:=((iS d c).1 h).2.2.1 x E;grind [okC]
theorem Kk {step:Nat->Int->Empty⊕Int}(p:Order->Bool){L:List Order}{s0:Int}(V:∀ k (_:k<L.length) s,step k s=bif p L[k]then .inr (i64.wrap (s+L[k].bn))else .inr s)(O:∀ x∈L,1<=x.bn/\x.bn<=1073741824)(Y:0<=s0/\s0<=5497558138880)(hn:L.length<=4096):aj step L.length 0 s0=.inr (s0+fS p L):=by
 obtain⟨v,e,h⟩:=i_ (step:=step) (λj v=>v=s0+fS p (L.take j)) L.length 0 s0 (by simp[fS]) (λj v _ E h=>by
  rw[aqu]at E;have X:=su (p:=p) (l:=L.take j) λx W=>O x (aqT W);have h1:=O L[j] (aqL E);have h2:(L.take j).length<=4096:=XN
  rw[V j E,aqD E,xI];simp only[fS];cases p L[j]with
  |true=>exact⟨_,rfl,by rw[ar XM XM,h,cond_true];omega⟩
  |false=>grind)
 grind
section
variable {d:ai}{c:List Claim}{P:List S1}
theorem XD (hc:∀ a∈c,1<=a.bn/\a.bn<=1073741824)(hn:c.length<=4096)(r h:Int):kE d c r h=drw d (c.map toC) r h:=by
 have:=Kk (step:=ld d c r h) (nL d r h) (L:=c.map toC) (s0:=0) (λk O s=>by
  grind [ld,nL,toC]) (λx E=>by
  obtain⟨y,hy,rfl⟩:=aq1.1 E;exact hc y hy) XM XN
 unfold kE;rw[aq5,Int.zero_add]at this;rw[this];rfl
def So (hc:∀ a∈c,1<=a.bn/\a.bn<=1073741824)(hn:c.length<=4096)(V:∀ x∈P,1<=x.bn/\x.bn<=1073741824)(X:P.length<=1024)(r h:Int):lT d c P r h=drw d (c.map toC++P.map toG) r h:=by
 have O:=O8 (d:=d) hc hn (S:=[]) (λx E=>(by cases E)) (by simp) r h;rw[aq4,aqo]at O;have:=Kk (step:=mj d P r h) (nL d r h) (L:=P.map toG) (s0:=drw d (c.map toC) r h) (λk W s=>by
  grind [mj,nL,toG]) (λx E=>by
  obtain⟨y,hy,rfl⟩:=aq1.1 E;exact V y hy) O XN
 unfold lT;rw[aq5]at this;rw[XD hc hn,this,yC];rfl
theorem am8 (O:∀ x∈P,1<=x.bn/\x.bn<=1073741824)(W:P.length<=1024)(r a b:Int):sG P r a b=fS (g9 r a b) (P.map toG):=by
 have:=Kk (step:=uO P r a b) (g9 r a b) (L:=P.map toG) (s0:=0) (λk V s=>by
  grind [uO,g9,toG]) (λx E=>by
  obtain⟨y,hy,rfl⟩:=aq1.1 E;exact O y hy) XM XN
 simp_all [sG]
theorem VR {i:Int}{x:Reach}(h:be i x=true){v:Int}(E:0<=v)(O:v<=1073741824):(lr x v).1=wst x v:=by
 have h1:=sE h E O;unfold eC at h1;rw[cond_false]at h1;unfold lr pL;rw[GZ h,show(decide (v<0) ||decide (v > 1073741824))=false by grind];grind
def M4 {i:Int}{x:Reach}(h:be i x=true)(v:Int):o9 x v:=⟨MS x,λ_ _=>J7 h v⟩
theorem am9 (j:Nat):aj (iL P j) j 0 ()=.inr ()↔∀ i,i<j->¬ ((P.getD i default).reach=(P.getD j default).reach/\(P.getD i default).hour=(P.getD j default).hour):=by
 have E:∀ i,iL P j i ()=.inr ()↔¬ ((P.getD i default).reach=(P.getD j default).reach/\(P.getD i default).hour=(P.getD j default).hour):=λi=>by
  simp_all [iL,aqV]
 constructor
 intro h i hi;exact(E i).1 (ny h i (aqq _) XM);intro h;exact r9 λi _ hi=>(E i).2 (h i XM)
theorem DE (x:S1):lU d x=true↔(0<=x.reach/\x.reach< (d.reaches.length:Int))/\(0<=x.hour/\x.hour<d.hours)/\1<=x.bn/\x.bn<=1073741824:=by
 unfold lU;grind
theorem VS (j:Nat):fH d P j ()=.inr ()↔lU d (P.getD j default)=true/\∀ i,i<j->¬ ((P.getD i default).reach=(P.getD j default).reach/\(P.getD i default).hour=(P.getD j default).hour):=by
 unfold fH;rw[<-am9,aqa];grind
theorem afd (hr:atq d)(hc:∀ a∈c,1<=a.bn/\a.bn<=1073741824)(hn:c.length<=4096)(X:∀ x∈P,(0<=x.reach/\x.reach< (d.reaches.length:Int))/\(0<=x.hour/\x.hour<d.hours)/\1<=x.bn/\x.bn<=1073741824)(hl:P.length<=1024){j:Nat}(hj:j<P.length):iM d c P j ()=.inr ()↔MP d c P P[j]:=by
 have g:P.getD j default=P[j]:=ib P default hj;obtain⟨⟨W,x2⟩,⟨x3,x4⟩,x5,x6⟩:=X P[j] (aqL hj);have Y:P[j].reach.toNat<d.reaches.length:=XM
 have E:=qs hr Y;rw[ard W]at E;have hH:=hr.hours;unfold iM;rw[g,So hc hn (λx hx=>(X x hx).2.2) hl];have hw:i64.wrap (P[j].hour+(rch d P[j].reach).delay)=P[j].hour+(rch d P[j].reach).delay:=ar XM XM;have O:(lr (rch d P[j].reach) (i64.wrap (P[j].bn - 1))).1=wst (rch d P[j].reach) (P[j].bn - 1):=by
  rw[ar XM XM,VR (hr.reach _ Y) XM XM]
 unfold rch at hw O;rw[hw,O,aqV,aqV];constructor
 intro h;split at h
 cases h;split at h
 cases h;rename_i V q2;simp only[aqG,ap9,not_or,not_and,decide_eq_true_eq,bne_iff_ne,Decidable.not_not]at V q2;refine⟨W,x2,x3,x4,x5,x6,XM,V.2,?_⟩;grind
 intro h;have h1:=h.w1;have h2:=h.w;have h3:=h.s;grind
def Sup (d:ai)(c:List Claim)(P:List S1):Prop:=(∀ x∈P,MP d c P x)/\P.Pairwise λx y=>¬ (x.reach=y.reach/\x.hour=y.hour)
theorem VT:(∀ j,j<P.length->∀ i,i<j->¬ ((P.getD i default).reach=(P.getD j default).reach/\(P.getD i default).hour=(P.getD j default).hour))↔P.Pairwise λx y=>¬ (x.reach=y.reach/\x.hour=y.hour):=by
 grind [List.pairwise_iff_getElem]
theorem VU (hr:atq d)(hc:∀ a∈c,1<=a.bn/\a.bn<=1073741824)(hn:c.length<=4096)(hl:P.length<=1024):jI d c P=true↔Sup d c P:=by
 unfold jI;constructor
 intro h;cases W:aj (fH d P) P.length 0 ()with
 |inl y=>grind
 |inr t=>
  rw[W]at h;simp only at h;have hA:=λj (V:j<P.length) =>(VS j).1 (ny W j (aqq _) XM);have X:∀ x∈P,(0<=x.reach/\x.reach< (d.reaches.length:Int))/\(0<=x.hour/\x.hour<d.hours)/\1<=x.bn/\x.bn<=1073741824:=λx E=>by
   obtain⟨j,V,rfl⟩:=aqw E;grind [DE]
  cases Y:aj (iM d c P) P.length 0 ()with
  |inl y=>grind
  |inr u=>
   refine⟨λx E=>?_,VT.1 λj V=>(hA j V).2⟩;obtain⟨j,V,rfl⟩:=aqw E;exact(afd hr hc hn X hl V).1 (ny Y j (aqq _) XM)
 rintro⟨O,hU⟩;have X:∀ x∈P,(0<=x.reach/\x.reach< (d.reaches.length:Int))/\(0<=x.hour/\x.hour<d.hours)/\1<=x.bn/\x.bn<=1073741824:=λx E=>⟨⟨(O x E).i0,(O x E).i1⟩,⟨(O x E).h0,(O x E).h1⟩,(O x E).l0,(O x E).l1⟩;rw[r9 λj _ V=>(VS j).2 ⟨by grind [DE],VT.2 hU j XM⟩];grind [r9,afd]
theorem Kl (hr:atq d)(hc:∀ a∈c,1<=a.bn/\a.bn<=1073741824)(hn:c.length<=4096)(E:P.length<=1024):(bO { d:=d,c:=c} P).2=true↔Sup d c P:=by
 constructor
 intro h;obtain⟨h1,h2,_⟩:=R9 hr hc hn E h;exact⟨h1,h2⟩;rintro⟨h1,h2⟩;obtain⟨m,e,_⟩:=adT hr hc hn h2 E h1;rw[e]
theorem am_ (hr:atq d)(hc:∀ a∈c,1<=a.bn/\a.bn<=1073741824)(hn:c.length<=4096)(r:atp)(E:r.atf.length<=1024)(hS:Sup d c r.atf):
  rH d c r=(bif(!(bf r.reach 0 (i64.wrap ((d.reaches.length:Int) - 1))) || !(bf r.hour 0 (i64.wrap (d.hours - 1))))then false else
   (bif(1==r.kind)then nN r r (d.reaches.getD (Int.toNat r.reach) default)else bif(3==r.kind)then nO r r (d.reaches.getD (Int.toNat r.reach) default)else bif(4==r.kind)then nP r r d else bif(7==r.kind)then nQ (bO { d:=d,c:=c} r.atf).1 r (d.reaches.getD (Int.toNat r.reach) default)else false)):=by
 have h64:=hr.reaches;have h1R:=hr.one;have hH:=hr.hours;have hH1:=hr.aua;obtain⟨O,hU⟩:=hS;have V:∀ x∈r.atf,1<=x.bn/\x.bn<=1073741824:=λx hx=>⟨(O x hx).l0,(O x hx).l1⟩;have hm:=(R9 hr hc hn E ((Kl hr hc hn E).2 ⟨O,hU⟩)).2.2;rw[ar (n:=(d.reaches.length:Int) - 1) XM XM,ar (n:=d.hours - 1) XM XM];unfold rH nN nO nP nQ;simp only[am8 V E,adU r _ _ V E,hm,So hc hn V E];by_cases hi:0<=r.reach/\r.reach< (d.reaches.length:Int)
 ·have hk:r.reach.toNat<d.reaches.length:=XM
  rw[VR (hr.reach _ hk) XM XM,yz (hr.reach _ hk) XM XM];have Y:(decide (r.reach<0) ||decide (r.reach>=(d.reaches.length:Int)))=false:=XN
  have X:bf r.reach 0 ((d.reaches.length:Int) - 1)=true:=(nR _ _ _).2 XM;rw[Y,X];simp only[aqE,ar4,cond_false];by_cases hh:0<=r.hour/\r.hour<d.hours
  have e3:(decide (r.hour<0) ||decide (r.hour>=d.hours))=false:=XN
  have W:bf r.hour 0 (d.hours - 1)=true:=(nR _ _ _).2 XM;rw[e3,W];simp only[aqE,cond_false];by_cases k1:r.kind=1
  simp[k1];by_cases k3:r.kind=3
  simp[k3];by_cases k4:r.kind=4
  cases z:r.reach==0 <;>grind;grind
  ·have e3:(decide (r.hour<0) ||decide (r.hour>=d.hours))=true:=XN
   have W:bf r.hour 0 (d.hours - 1)=false:=by
    cases q:bf r.hour 0 (d.hours - 1)with
    |false=>rfl|true=>have:=(nR _ _ _).1 q;omega
   grind
 ·have Y:(decide (r.reach<0) ||decide (r.reach>=(d.reaches.length:Int)))=true:=XN
  have X:bf r.reach 0 ((d.reaches.length:Int) - 1)=false:=by
   cases q:bf r.reach 0 ((d.reaches.length:Int) - 1)with
   |false=>rfl|true=>have:=(nR _ _ _).1 q;omega
  grind
end
section
variable {d:ai}{l:List bo}{fr to k:Int}
def VV:kU d l fr to k=aQ d l fr to k:=(adN d l fr to k).2.trans (MB d l fr to k).2.symm
theorem afe:(jX d l fr to k).2=(aG d l fr to k).2/\((aG d l fr to k).2=0->(jX d l fr to k).1=(aQ d l fr to k).1):=by
 unfold jX aG;rw[VV,(Kf d _).1];cases h1:((aQ d l fr to k).2 !=0)with
 |true=>grind
 |false=>
  simp only[cond_false];cases h2:((bM d (aQ d l fr to k).1).2.2 !=0)with
  |true=>grind
  |false=>
   have E:=((AP d (aQ d l fr to k).1).1 XN).1;simp only[cond_false,Sn E.chk];grind
theorem ad4 (r:atp)(X:r.atf.length<=1024):dO d l fr to k r=qt d l fr to k r:=by
 obtain⟨a1,a2⟩:=afe (d:=d) (l:=l) (fr:=fr) (to:=to) (k:=k);unfold dO qt;rw[a1];by_cases W:(aG d l fr to k).2=0
 have V:=(GX d l fr to k).1 W;have hA:=FG V.ask λx=>!br x r.bl;have hr:=hA.nar.good.right;obtain⟨O,E⟩:=abq hA.chk;have e3:dg { d:=d,c:=(aQ d l fr to k).1} r.bl= { d:=d,c:=flt (aQ d l fr to k).1 r.bl}:=(ym { d:=d,c:=(aQ d l fr to k).1} r.bl (yG d l fr to k)).2;have hs:∀ j s,d9 d l fr to k r j s=jJ d l fr to k r j s:=λj s=>by
  unfold d9 jJ;rw[a2 W,B7 V,Sn V.ask.chk,FE,Pm,Sm]
 rw[show d9 d l fr to k r=jJ d l fr to k r from funext λj=>funext λs=>hs j s,a2 W,B7 V,(VP (yG d l fr to k) r.bl).2];simp only[bne_self_eq_false,cond_false,e3];cases e1:aj (jJ d l fr to k r) r.bl.length 0 ()with
 |inl y=>rfl
 |inr u=>
  simp only;cases hm:(bO { d:=d,c:=flt (aQ d l fr to k).1 r.bl} r.atf).2 with
  |false=>
   grind [Kl,VU]
  |true=>
   have Y:=(Kl hr O E X).1 hm;rw[(VU hr O E X).2 Y,am_ hr O E r X Y];simp only[aj,jU,B7 V,e3,aqE,ar4,asF];cases(!(bf r.reach 0 (i64.wrap ((d.reaches.length:Int) - 1))) || !(bf r.hour 0 (i64.wrap (d.hours - 1))))with
   |true=>rfl
   |false=>
    simp only[cond_false];cases(1==r.kind) <;>cases(3==r.kind) <;>cases(4==r.kind) <;>cases(7==r.kind) <;>rfl
 grind
theorem ad5 {c:List Claim}{P:List S1}(hr:atq d)(W:∀ x∈c,0<=x.gl/\x.gl< (d.zs.length:Int)):ot d c P:=by
 refine⟨eu _ _ _ λj t _ E V q=>⟨by grind [aD],eu _ _ _ λi t _ hi=>?_⟩,λs e=>eu _ _ _ λj t _ E V=>?_⟩;rw[aqa]at hi;exact⟨XM,λ_=>XM⟩;rw[aqu]at E;have O:∀ i,i<P.length->0<=(P.getD i default).reach/\(P.getD i default).reach< (d.reaches.length:Int):=λi hi=>((DE _).1 ((VS i).1 (ny e i (aqq _) XM)).1).1;refine⟨O j E,λ_=>⟨eu _ _ _ λi t _ hi _ _=>?_,eu _ _ _ λi t _ hi _=>O i XM⟩,λ_=>?_⟩;grind
 obtain⟨X,i1⟩:=O j E;exact M4 (hr.reach (P.getD j default).reach.toNat XM) _
theorem XE (r:atp):tu d l fr to k r:=by
 obtain⟨a1,a2⟩:=afe (d:=d) (l:=l) (fr:=fr) (to:=to) (k:=k);have V:b9 d (aQ d l fr to k).1=0->jG d (aQ d l fr to k).1:=λh=>amV _ _ (yG d l fr to k) (by have:=((ql d).1 ((iS d _).1 h).1).1;omega);refine⟨⟨(adN d l fr to k).1,λ_=>?_⟩,λE=>?_⟩;rw[VV];refine⟨(Kf d _).2,λh=>?_⟩;rw[(Kf d _).1]at h;exact V ((AP d _).1 (by simpa using h)).1.chk;have E:(aG d l fr to k).2=0:=XN
 have W:=(GX d l fr to k).1 E;have O:=FG W.ask λx=>!br x r.bl;have hr:=O.nar.good.right;rw[a2 E];obtain⟨o1,o2⟩:=VP (yG d l fr to k) r.bl;rw[o2];refine⟨V W.ask.chk,eu _ _ _ λj t _ hj=>?_,λs e=>⟨o1,ad5 hr (yH O),λX=>?_⟩⟩;grind [ou,aD,ar]
 intro hi;simp only[aqt,decide_eq_false_iff_not]at hi;have hk:r.reach.toNat<d.reaches.length:=XM
 refine⟨XM,λ_ _ _ _ _=>⟨⟨eu _ _ _ λi t _ hi _ _=>?_,eu _ _ _ λi t _ hi _=>?_⟩,M4 (hr.reach _ hk) _⟩⟩;have hi:i< (flt (aQ d l fr to k).1 r.bl).length:=XM
 rw[ib _ default hi];exact yH O _ (aqL _);unfold jI at X;cases Y:aj (fH d r.atf) r.atf.length 0 ()with
 |inl y=>grind
 |inr t=>exact((DE _).1 ((VS i).1 (ny Y i (aqq _) XM)).1).1
end
theorem XF (a0:ai)(a1:List bo)(E W O:Int)(V:atp)(_: -9223372036854775808<=E/\E<=9223372036854775807)(_: -9223372036854775808<=W/\W<=9223372036854775807)(_: -9223372036854775808<=O/\O<=9223372036854775807):gT a0 a1 E W O V=true:=by
 unfold gT;rw[abk];simp only[aqE,cond_false];cases X:(!(xM a0 a1 E W O) || !(u4 V))with
 |true=>rfl
 |false=>
  simp only[aqt,aq9]at X;have Y:V.atf.length<=1024:=by
   grind [u4]
  rw[cond_false,ad4 V Y];simp
def XG (a0:ai)(a1:List bo)(E V O:Int)(W:atp)(_: -9223372036854775808<=E/\E<=9223372036854775807)(_: -9223372036854775808<=V/\V<=9223372036854775807)(_: -9223372036854775808<=O/\O<=9223372036854775807):iN a0 a1 E V O W:=
 ⟨abo,λ_=>⟨adP _ _ _ _ _,λ_=>⟨DA _ _ _ _ _ _,XE _⟩⟩⟩
end Go.Sx
end
