/- Part of the proof that the law JudgementServed returns true and leaves its arguments as they were, for all arguments of bulk at most 1048576 (the Upto form). -/
import Derived.Test.YtnanafpgfihjfaaGreatJ713
import Derived.Test.YtnanafpgfihjfaaGreatJ708
import Derived.Test.YtnanafpgfihjfaaGreatJ707
import Derived.Test.YtnanafpgfihjfaaGreatJ712
import Derived.Test.YtnanafpgfihjfaaGreatJ709
import Derived.Sort.Statements
import Derived.Shelf.SlSortCmp.Insertion
import Derived.Shelf.SlSortCmp.NoneTotal
import Derived.Ground.SlsfProg
import Derived.Test.YtnanafpgfihjfaaGreatProg
import Derived.Test.YtnanafpgfihjfaaGreatJ710
set_option linter.all false
set_option maxHeartbeats 4000000
set_option maxRecDepth 100000
section
namespace Go.Sx
open Go.Proofs
open IntKind (i64 u64)
theorem Gu {Q:Int->Prop}{f o:Int}:∀ (S:List Claim) (n:Int) (K G:List Claim),(∀ y∈S,Q y.right)->(∀ y∈K,Q y.right)->(∀ y∈G,Q y.right)->(∀ y∈(gv f o S n K G).1,Q y.right)/\∀ y∈(gv f o S n K G).2,Q y.right
 | [],n,K,G,_,hK,hG=>⟨hK,hG⟩
 |y::S,n,K,G,hS,hK,hG=>by
  have hy:=hS y (by simp);have hS':∀ z∈S,Q z.right:=fun z hz=>hS z (by simp[hz]);have hput:∀ z:Claim,z.right=y.right->∀ w∈g8 K z,Q w.right:=fun z hz w hw=>by
   rcases zk hw with⟨e1,_⟩ |hw <;>grind
  by_cases hf:y.farm=f
  rw[gv,if_pos hf];refine Gu S _ _ _ hS' ?_ ?_;split
  exact hput _ rfl;exact hK;split
  intro z hz;rcases aix.1 hz with hz|hz;exact hG z hz;rw[aiT.1 hz];exact hy;exact hG;rw[gv,if_neg hf];refine Gu S _ _ _ hS' ?_ hG;grind
theorem Gv {Q:Int->Prop}:∀ (G K:List Claim),(∀ y∈K,Q y.right)->(∀ y∈G,Q y.right)->∀ y∈G.foldl g8 K,Q y.right
 | [],_,hK,_=>hK
 |x::G,K,hK,hG=>Gv G (g8 K x) (fun w hw=>by
   rcases zk hw with⟨e1,_⟩ |hw <;>grind) fun y hy=>hG y (by simp[hy])
section
variable {ρ:Int->Int}{h R F B:Int}
theorem Rd {Q:Int->Prop}{dd:District}{x:Judgement}(hx:JOk dd x)(h0:x.of_=0){N:Nat}{l:List Claim}(i:InvD ρ h R F B N l)(hB:0<=B/\B<=4398046511104)(hN:N<=8192)(hl:∀ y∈l,Q y.right):∀ y∈doJ x l,Q y.right:=by
 have hlen:=i.len;have hb:=i.lit;have hL:Lit l:=fun y hy=>by grind
 have hmB:l.length*40<=di:=by unfold di;omega
 have hn:0<=x.n/\x.n<4611686018427387904:=by
  by_cases hk1:x.kind=1
  rw[hx.none hk1];omega;have:=hx.n hk1 h0;omega
 have kl:∀ n:Int,n=x.n->∀ y∈fA l x.farm n,Q y.right:=fun n e=>by
  subst e;obtain⟨_,_,e⟩:=uQ x l hn.1 hn.2 hL i.d.s hmB;rw[e];intro y hy;obtain⟨w,hw,_,e2,_⟩:=zj x.farm l x.n y (ai3.1 hy).1;grind
 unfold doJ;split
 exact kl 0 (hx.none (by assumption)).symm;split
 grind
 split
 obtain⟨_,e⟩:=vX l x.farm x.other x.n hB (by omega) hn.1 hn.2 hb;obtain⟨q1,q2⟩:=Gu (Q:=Q) (f:=x.farm) (o:=x.other) l.reverse x.n [] [] (fun y hy=>hl y (by grind)) (fun y hy=>by cases hy) (fun y hy=>by cases hy);rw[e];exact Gv _ _ q1 q2;exact hl
theorem Iq {Q:Int->Prop}{dd:District}(hR:R<=256)(hF:(dd.farms.length:Int)=F)(hB:0<=B/\B<=4398046511104):∀ (L:List Judgement) (N:Nat) (l:List Claim),(∀ x∈L,JOk dd x/\x.of_=0)->InvD ρ h R F B N l->N+256*L.length<=8192->(∀ y∈l,Q y.right)->∀ y∈L.foldl (fun s x=>doJ x s) l,Q y.right
 | [],_,_,_,_,_,hl=>hl
 |x::L,N,l,hx,i,hN,hl=>by
  have h1:=hx x (by simp);simp only[ais]at hN;exact Iq hR hF hB L (N+256) (doJ x l) (fun y hy=>hx y (by simp[hy])) (i.step h1.1 h1.2 hR hF hB (by omega) [] ([],[])).2.2 (by omega) (Rd h1.1 h1.2 i hB (by omega) hl)
end
section
variable {d:District}{j:List Judgement}{c:List Claim}
theorem Given.right (g:Given d j c){h:Int}(hh:∀ x∈c,x.hour=h){Q:Int->Prop}(hq:∀ y∈c,Q y.right):∀ y∈doH j h c,Q y.right:=by
 have hin:∀ x∈aC j h,x∈j/\x.of_=0:=fun x hx=>by
  rw[jf]at hx;have:=ai3.1 hx;exact⟨this.1,uS this.2⟩
 have hlen:(aC j h).length<=20:=by
  rw[jf];have:=ajV (fun x=>cU j x h) j;have:=g.jl;omega
 have e:doH j h c=(aC j h).foldl (fun s x=>doJ x s) c:=by rw[jf];rfl
 rw[e];exact Iq (R:=d.rights.length) (F:=d.farms.length) (by have:=g.rl;omega) rfl (by unfold Hf;omega) (aC j h) 300 c (fun x hx=>⟨g.js x (hin x hx).1,(hin x hx).2⟩) (g.start hh) (by omega) hq
theorem ui (c:List Claim)(h:Int):(mF c h).Sublist c/\∀ x∈mF c h,x.hour=h:=⟨ajw,fun x hx=>by simpa using (ai3.1 hx).2⟩
theorem Given.byhour (g:Given d j c):JQ c:=g.st.imp fun {a b} hab=>by
 grind [zW,w8]
theorem Given.out (g:Given d j c):exS j (c.length+1) c=exR j c 0 d.hours.toNat:=Ui j _ c 0 _ (by omega) g.byhour fun z hz=>by
 have h1:=(g.cs z hz).h0;have h2:=(g.cs z hz).h1;omega
theorem Ir {r:Claim->Claim->Prop}{f:Int->List Claim}(h1:∀ h,(f h).Pairwise r)(h2:∀ h k,h<k->∀ a∈f h,∀ b∈f k,r a b):∀ (n:Nat) (lo:Int),(He f lo n).Pairwise r
 |0,_=>List.Pairwise.nil
 |n+1,lo=>ajq.2 ⟨h1 lo,Ir h1 h2 n (lo+1),fun a ha b hb=>by
  obtain⟨k,k1,_,hb⟩:=Gl hb;grind⟩
theorem Given.cl4 (g:Given d j c)(n:Nat)(lo:Int):(exR j c lo n).Pairwise zW:=by
 have hd:∀ h,Dock (rho d) h (doH j h (mF c h)):=fun h=>((g.sub (ui c h).1).hour (ui c h).2 [] ([],[])).2.1.d;refine Ir (fun h=>?_) (fun h k hk a ha b hb=>?_) n lo;refine(hd h).s.imp_of_mem fun {a b} ha hb hab=>?_;exact Or.inr ⟨by rw[(hd h).hr a ha,(hd h).hr b hb],hab⟩;exact Or.inl (by rw[(hd h).hr a ha,(hd k).hr b hb];exact hk)
theorem Given.fine (g:Given d j c){x:Claim}(hx:x∈exR j c 0 d.hours.toNat)(hl:x.litres<=1073741824):FineC d x:=by
 obtain⟨h,h1,h2,hx⟩:=Gl hx;have gs:=g.sub (ui c h).1;have i:=(gs.hour (ui c h).2 [] ([],[])).2.1;have hp:=i.pl x hx;have hk:=gs.right (ui c h).2 (Q:=fun r=>(d.rights.getD r.toNat default).kind=1) (fun y hy=>(gs.cs y hy).kind) x hx;have hh:=i.d.hr x hx;have hpos:=i.d.pos x hx;exact⟨hp.1.1,hp.1.2,hp.2.1,hp.2.2,by omega,by omega,by omega,hl,hk,(i.d.rk x hx).symm⟩
theorem UB {d:District}{c:List Claim}{j:List Judgement}(h:(zZ d c j).2=0):(bw d j=0/\aK d c=0)/\(zZ d c j).1=exS j (c.length+1) c/\(exS j (c.length+1) c).length<=4096/\∀ x∈exS j (c.length+1) c,x.litres<=1073741824:=by
 unfold zZ at h |-;cases h1:bw d j !=0 with
 |true=>
  grind
 |false=>
  rw[h1]at h;simp only[cond_false]at h |-;cases h2:aK d c !=0 with
  |true=>
   grind
  |false=>
   rw[h2]at h;simp only[cond_false]at h |-;cases h3:(decide (((exS j (c.length+1) c).length:Int) > 4096)) ||(exS j (c.length+1) c).any cJ with
   |true=>grind
   |false=>
    rw[ai8]at h3;refine⟨⟨by grind,by grind⟩,rfl,?_,fun x hx=>?_⟩;grind
    simp_all [cJ]
theorem Re {d:District}{c:List Claim}{j:List Judgement}(hj:JR j)(hf:oO d c j=true)(h:(zZ d c j).2=0):Given d j c/\aK d (zZ d c j).1=0/\(zZ d c j).1=exR j c 0 d.hours.toNat:=by
 obtain⟨f1,f2⟩:=YQ hf hj;obtain⟨⟨h1,h2⟩,h3,h4,h5⟩:=UB h;have g:=L1 h1 hj h2 (f1 h1) (f2 h2);rw[h3];rw[g.out]at h4 h5 |-;exact⟨g,NA (A6 h2).1 h4 (fun x hx=>g.fine hx (h5 x hx)) (g.cl4 _ _),rfl⟩
end



structure SumM (A:List Claim)(s:List (Int×Int)):Prop where
 nd:(sR s).Nodup
 val:∀ h:Int,aZ .int .int s h=tot (mF A h)
theorem Rf (A B:List Claim)(h:Int):mF (A++B) h=mF A h++mF B h:=List.filter_append _ _
theorem SumM.mem {c:List Claim}{s:List (Int×Int)}(m:SumM c s){e:Int×Int}(he:e∈s):e.2=tot (mF c e.1):=by
 have h1:=(Lj m.nd (x:=e.1) (y:=e.2)).2 he;have h2:=m.val e.1;have h3:aZ .int .int s e.1=e.2:=by
  show(jn s e.1).getD _=_;have h1':jn s e.1=some e.2:=h1;rw[h1'];rfl
 rw[h3]at h2;exact h2
theorem Is {f:Int->List Claim}(hf:∀ h,∀ z∈f h,z.hour=h)(h:Int):∀ (n:Nat) (lo:Int),mF (He f lo n) h=if lo<=h/\h<lo+n then f h else []
 |0,lo=>by rw[if_neg (by omega)];rfl
 |n+1,lo=>by
  rw[He,Rf,Is hf h n (lo+1)];by_cases e:h=lo
  subst e;have:mF (f h) h=f h:=ajJ.2 fun z hz=>by rw[hf h z hz];simp
  rw[this,if_neg (by omega),if_pos (by omega),aiQ];have:mF (f lo) h=[]:=akj.2 fun z hz=>by rw[hf lo z hz];simp;omega
  rw[this,aiC];by_cases e2:lo+1<=h/\h<lo+1+n
  rw[if_pos e2,if_pos (by omega)];rw[if_neg e2,if_neg (by omega)]
def rf (d:District)(f:Int):Int:=(d.farms.getD f.toNat default).reach
theorem It (p:Claim->Bool)(l:List Claim):tot l=tot (l.filter p)+tot (l.filter fun y=>!p y):=by
 induction l with
 |nil=>rfl
 |cons x l ih=>
  rw[List.filter_cons,List.filter_cons];cases h:p x <;>simp only[aiP,aiY,if_true,if_false,ait,tot] <;>omega
theorem Rg {d:District}{b:List Judgement}{x:Judgement}(h:jz d b x=true)(h0:x.of_=0)(h3:x.kind=3):rf d x.other=rf d x.farm:=by
 simp_all [jz,lU,rf]
theorem NI {d:District}{j:List Judgement}(h:iL d j=0):∀ x∈j,x.of_=0->x.kind=3->rf d x.other=rf d x.farm:=fun x hx h0 h3=>by
 obtain⟨_,_,h3'⟩:=zN h;obtain⟨k,hk,e⟩:=aiN hx;have:=h3' k hk;rw[nq j default hk,e]at this;exact Rg this h0 h3
section
variable {ρ:Int->Int}{h R F B:Int}{N:Nat}
theorem Rh {dd:District}{x:Judgement}(hx:JOk dd x)(h0:x.of_=0)(hr:x.kind=3->rf dd x.other=rf dd x.farm){l:List Claim}(i:InvD ρ h R F B N l)(hB:0<=B/\B<=4398046511104)(hN:N<=8192)(hd:Dock ρ h (doJ x l))(r:Int):
  tot ((doJ x l).filter fun y=>rf dd y.farm==r)<=tot (l.filter fun y=>rf dd y.farm==r):=by
 have hk:=hx.kind h0;by_cases h4:x.kind=4
 simp_all [doJ];have ho:3<=x.kind->rf dd x.other=rf dd x.farm:=fun q=>hr (by omega);obtain⟨f1,f2,_⟩:=Il hx h0 i hB hN hd;by_cases hf:rf dd x.farm=r
 have e:=f1 (fun p=>rf dd p==r) (by grind) (fun q=>by grind);have t1:=It (fun y=>rf dd y.farm==r) (doJ x l);have t2:=It (fun y=>rf dd y.farm==r) l;grind
 have e:=f1 (fun p=>!(rf dd p==r)) (by grind) (fun q=>by grind);grind
theorem Iu {dd:District}(hR:R<=256)(hF:(dd.farms.length:Int)=F)(hB:0<=B/\B<=4398046511104)(r:Int):∀ (L:List Judgement) (N:Nat) (l:List Claim),(∀ x∈L,(JOk dd x/\x.of_=0)/\(x.kind=3->rf dd x.other=rf dd x.farm))->InvD ρ h R F B N l->N+256*L.length<=8192->
  tot ((L.foldl (fun s x=>doJ x s) l).filter fun y=>rf dd y.farm==r)<=tot (l.filter fun y=>rf dd y.farm==r)
 | [],_,_,_,_,_=>ajc _
 |x::L,N,l,hx,i,hN=>by
  have h1:=hx x (by simp);simp only[ais]at hN;have i2:=(i.step h1.1.1 h1.1.2 hR hF hB (by omega) [] ([],[])).2.2;exact akp (Iu hR hF hB r L (N+256) (doJ x l) (fun y hy=>hx y (by simp[hy])) i2 (by omega)) (Rh h1.1.1 h1.1.2 h1.2 i hB (by omega) i2.d r)
end
def JW (d:District)(c:List Claim)(r h:Int):Int:=tot ((mF c h).filter fun y=>rf d y.farm==r)
section
variable {d:District}{j:List Judgement}{c:List Claim}
theorem Given.reach (g:Given d j c)(hr:∀ x∈j,x.of_=0->x.kind=3->rf d x.other=rf d x.farm){h:Int}(hh:∀ x∈c,x.hour=h)(r:Int):tot ((doH j h c).filter fun y=>rf d y.farm==r)<=tot (c.filter fun y=>rf d y.farm==r):=by
 have hin:∀ x∈aC j h,x∈j/\x.of_=0:=fun x hx=>by
  rw[jf]at hx;have:=ai3.1 hx;exact⟨this.1,uS this.2⟩
 have hlen:(aC j h).length<=20:=by
  rw[jf];have:=ajV (fun x=>cU j x h) j;have:=g.jl;omega
 have e:doH j h c=(aC j h).foldl (fun s x=>doJ x s) c:=by rw[jf];rfl
 rw[e];exact Iu (R:=d.rights.length) (F:=d.farms.length) (by have:=g.rl;omega) rfl (by unfold Hf;omega) r (aC j h) 300 c (fun x hx=>⟨⟨g.js x (hin x hx).1,(hin x hx).2⟩,hr x (hin x hx).1 (hin x hx).2⟩) (g.start hh) (by omega)
theorem XG {l:List Claim}(h:∀ y∈l,1<=y.litres):0<=tot l:=NF fun y hy=>by grind
theorem XH (hc:∀ y∈c,1<=y.litres)(r h:Int):0<=JW d c r h:=XG fun y hy=>hc y (ai3.1 (ai3.1 hy).1).1
theorem Ri (hj:JR j)(hf:oO d c j=true)(h:(zZ d c j).2=0)(hr:∀ x∈j,x.of_=0->x.kind=3->rf d x.other=rf d x.farm)(r t:Int):JW d (zZ d c j).1 r t<=JW d c r t:=by
 obtain⟨g,_,e⟩:=Re hj hf h;rw[e];unfold JW exR;have hs:=ui c;have gd:=fun h=>(g.sub (hs h).1).hour (hs h).2 [] ([],[]);rw[Is (f:=fun h=>doH j h (mF c h)) (fun h z hz=>(gd h).2.1.d.hr z hz)];split
 exact(g.sub (hs t).1).reach hr (hs t).2 r;exact XH (fun y hy=>(g.cs y hy).l0) r t
end
def Ck (a:Order):Int:=bif a.outlet then 1 else 0
def olt (a b:Order):Prop:=a.hour<b.hour\/a.hour=b.hour/\(Ck a<Ck b\/Ck a=Ck b/\a.index<b.index)
theorem Iv {a b:Order}(h:aA a b<0):olt a b:=by
 unfold aA at h;unfold olt;have k0:∀ x,uG 0 x=x.hour:=fun _=>rfl;have k1:∀ x,uG 1 x=Ck x:=fun _=>rfl;have k2:∀ x,uG 2 x=x.index:=fun _=>rfl;simp only[aq,zL,ai2,Nat.reduceAdd,k0,k1,k2,lT]at h;grind
theorem Iw {a b c:Order}(h1:olt a b)(h2:olt b c):olt a c:=by
 grind [olt]
theorem L3 (a b:Order):aA a b<0↔olt a b:=by
 refine⟨Iv,fun h=>?_⟩;unfold aA;have k0:∀ x,uG 0 x=x.hour:=fun _=>rfl;have k1:∀ x,uG 1 x=Ck x:=fun _=>rfl;have k2:∀ x,uG 2 x=x.index:=fun _=>rfl;simp only[aq,zL,ai2,Nat.reduceAdd,k0,k1,k2,lT];grind [olt]
open Go.Shelf Go.Sort in
theorem JX:SWO (ltOf aA):=by
 have e:∀ x y,ltOf aA x y=true↔olt x y:=fun x y=>by unfold ltOf;rw[decide_eq_true_eq,L3]
 have e':∀ x y,ltOf aA x y=false↔¬olt x y:=fun x y=>by grind
 refine⟨fun x=>(e' x x).2 (by unfold olt;omega),fun x y z h1 h2=>(e x z).2 (Iw ((e x y).1 h1) ((e y z).1 h2)),fun x y z h1 h2=>(e' x z).2 ?_⟩;grind [olt]
structure Order1 (d:District)(x:Order):Prop where
 hour0:0<=x.hour
 hour:x.hour<d.hours
 index0:0<=x.index
 farm:x.outlet=true->x.index< (d.farms.length:Int)
 reach:x.outlet=false->x.index< (d.reaches.length:Int)
 litres1:1<=x.litres
 litres:x.litres<=1073741824
theorem NJ (d:District)(l:List Order):pL d l:=fun _ h1 _ _=>kU _ _ _ fun j s h2 h3=>by
 unfold aI at h1;unfold l8;have e:decide ((j:Int) > 0)=true->(0<=i64.wrap ((j:Int) - 1)/\i64.wrap ((j:Int) - 1) < (l.length:Int)):=fun h=>by
  simp only[decide_eq_true_eq]at h;grind [uf]
 grind
structure Orders1 (d:District)(l:List Order):Prop where
 right:Right1 d
 len:l.length<=4096
 one:∀ k,k<l.length->Order1 d (l.getD k default)
 asc:∀ k,k+1<l.length->aA (l.getD k default) (l.getD (k+1) default) <0
theorem Gw {d:District}{l:List Order}(h:(eQ d l !=0)=false):Orders1 d l:=by
 have h:eQ d l=0:=by simpa using h
 unfold eQ at h;cases h1:aU d !=0 with
 |true=>grind
 |false=>
  rw[h1]at h;simp only[cond_false]at h;cases h2:decide ((l.length:Int) > 4096)with
  |true=>grind
  |false=>
   rw[h2]at h;simp only[cond_false]at h;have hl:l.length<=4096:=by grind
   split at h
   cases h;rename_i s hs;have key:∀ k,k<l.length->Order1 d (l.getD k default)/\(0<k->aA (l.getD (k - 1) default) (l.getD k default) <0):=by
    intro k hk;have:=ln hs k (by omega) (by omega);have hp:((k:Int) > 0)->(i64.wrap ((k:Int) - 1)).toNat=k - 1:=fun h=>by
     grind [uf]
    unfold jD at this;generalize hx:l.getD k default=x at this |-;cases ho:x.outlet with
    |true=>
     rw[ho]at this;simp only[cond_true]at this;rw[ai4]at this;split at this
     cases this;rename_i hc;simp only[akm,ai8,ajU,decide_eq_false_iff_not]at hc;refine⟨⟨by omega,by omega,by omega,fun _=>by omega,fun h=>by grind,by omega,by omega⟩,fun hk0=>?_⟩;grind
    |false=>
     rw[ho]at this;simp only[cond_false]at this;rw[ai4]at this;split at this
     cases this;rename_i hc;simp only[akm,ai8,ajU,decide_eq_false_iff_not]at hc;refine⟨⟨by omega,by omega,by omega,fun h=>by grind,fun _=>by omega,by omega,by omega⟩,fun hk0=>?_⟩;grind
   exact⟨y8 h1,hl,fun k hk=>(key k hk).1,fun k hk=>(key (k+1) hk).2 (by omega)⟩
structure Reach1 (i:Int)(x:Reach):Prop where
 up:x.up<i
 delay1:1<=x.delay
 delay:x.delay<=16
 siphon0:0<=x.siphon
 siphon:x.siphon<=x.cap
 cap:x.cap<=1073741824
 bank:x.siphon<=x.bank
 bank1:x.bank<=1099511627776
theorem Ix {i:Int}{x:Reach}(hi:0<=i)(h:cg i x=true):Reach1 i x:=by
 unfold cg at h;cases hd:decide (i > 0)with
 |true=>
  rw[hd]at h;simp only[cond_true,aim,eA,decide_eq_true_eq]at h hd;obtain⟨⟨⟨⟨⟨h0,h1⟩,h2⟩,h3⟩,h4⟩,h5⟩:=h;have:=BZ h1;have:=vP h2;have:=vP h3;constructor <;>omega
 |false=>
  rw[hd]at h;simp only[cond_false,aim,beq_iff_eq,decide_eq_false_iff_not]at h hd;obtain⟨⟨⟨⟨⟨h0,h1⟩,h2⟩,h3⟩,h4⟩,h5⟩:=h;have:=BZ h1;have:=vP h2;have:=vP h3;constructor <;>omega
theorem Right1.reach1 {d:District}(h:Right1 d){k:Nat}(hk:k<d.reaches.length):Reach1 k (d.reaches.getD k default):=Ix (by omega) (h.reach k hk)
theorem AA (d:District)(l:List Order):eQ d l=0↔aU d=0/\l.length<=4096/\∀ k,k<l.length->jD d l k ()=.inr ():=by
 unfold eQ;cases h1:(aU d !=0)with
 |true=>grind
 |false=>
  simp at h1;simp only[cond_false,h1,true_and];grind [nW]
theorem Orders1.lt {d:District}{l:List Order}(h:Orders1 d l):∀ (k j:Nat),j<k->k<l.length->olt (l.getD j default) (l.getD k default)
 |k+1,j,h1,h2=>by
  have h3:=Iv (h.asc k (by omega));by_cases e:j=k
  grind
  exact Iw (h.lt k j (by omega) (by omega)) h3
def d4 (p:Order->Bool):List Order->Int
 | [] =>0|x::r=>(bif p x then x.litres else 0)+d4 p r
theorem va (p:Order->Bool)(a b:List Order):d4 p (a++b)=d4 p a+d4 p b:=by
 induction a with
 |nil=>simp[d4]|cons x r ih=>grind [d4]
theorem Gx {p:Order->Bool}{l:List Order}(h:∀ x∈l,1<=x.litres/\x.litres<=1073741824):0<=d4 p l/\d4 p l<=l.length*1073741824:=by
 induction l with
 |nil=>simp[d4]
 |cons x r ih=>
  have h1:=ih fun a ha=>h a (aiz _ ha);have h2:=h x ai6;simp only[d4,ais];grind
theorem sn {p:Order->Bool}{l:List Order}(h:∀ x∈l,p x=false):d4 p l=0:=by
 induction l with
 |nil=>rfl
 |cons x r ih=>
  grind [d4]
theorem UC {p q r:Order->Bool}{l:List Order}(h:∀ x∈l,(r x=(p x||q x))/\(p x&&q x)=false):d4 p l+d4 q l=d4 r l:=by
 induction l with
 |nil=>rfl
 |cons x t ih=>
  simp only[d4];grind
theorem UD {p:Order->Bool}{l:List Order}{j:Nat}(hj:j<l.length)(h:p l[j]=true)(hn:∀ i (hi:i<l.length),i≠j->p l[i]=false):d4 p l=l[j].litres:=by
 have e:l=l.take j++l[j]::l.drop (j+1):=by simp_all
 conv=>lhs;rw[e,va]
 rw[sn fun x hx=>?_];simp only[d4,h,cond_true];rw[sn fun x hx=>?_];omega;obtain⟨i,hi,rfl⟩:=aiN hx;grind
 obtain⟨i,hi,rfl⟩:=aiN hx;grind
theorem Orders1.lit {d:District}{l:List Order}(h:Orders1 d l):∀ x∈l,1<=x.litres/\x.litres<=1073741824:=fun x hx=>by
 obtain⟨k,hk,rfl⟩:=aiN hx;have:=h.one k hk;rw[nq _ _ hk]at this;exact⟨this.litres1,this.litres⟩
theorem Orders1.uniq {d:District}{l:List Order}(h:Orders1 d l){i j:Nat}(hi:i<l.length)(hj:j<l.length)(e1:l[i].hour=l[j].hour)(e2:l[i].index=l[j].index)(e3:l[i].outlet=l[j].outlet):i=j:=by
 have key:∀ a b (ha:a<l.length) (hb:b<l.length),a<b->l[a].hour=l[b].hour->l[a].index=l[b].index->l[a].outlet=l[b].outlet->False:=fun a b ha hb hab e1 e2 e3=>by
  have:=h.lt b a hab hb;grind [olt,Ck]
 grind
theorem zR {p:Order->Bool}{l:List Order}{j:Nat}(hj:j<l.length):d4 p (l.take (j+1))=d4 p (l.take j)+(bif p l[j]then l[j].litres else 0):=by
 rw[ajm hj,va];simp[d4]
theorem A8 {κ υ:Type}[DecidableEq κ]:∀ (l:List (κ×υ)) (x:κ) (y:υ),(tT l x y).map Prod.fst=if x∈l.map Prod.fst then l.map Prod.fst else l.map Prod.fst++[x]
 | [],x,y=>by simp[tT]
 |(a,b)::r,x,y=>by
  unfold tT;by_cases h:x=a
  subst h;simp;rw[if_neg h,aiW,A8 r x y];grind
theorem L4 {κ υ:Type}[DecidableEq κ]:∀ (l:List (κ×υ)) (e:κ×υ),(l.map Prod.fst).Nodup->e∈l->jn l e.1=some e.2
 |(a,b)::r,e,hn,he=>by
  simp only[aiW,ai1]at hn;unfold jn;rcases aiu.1 he with rfl|he;simp;have:e.1≠a:=fun h=>hn.1 (h▸ajH he);rw[if_neg this];exact L4 r e hn.2 he
theorem Dc {α:Type}(l:List α)(d:α){k:Nat}(h:k<l.length):l.getD k d∈l:=by
 grind
theorem PB {n d:Int}(hd:1<=d)(hd2:d<=1073741824)(h1: -1152921504606846976<=n)(h2:n<=1152921504606846976):rW n d=n / d:=by
 unfold rW;have e1:Int.tmod (Int.tmod n d+d) d=n % d:=by
  have a1: -d<Int.tmod n d:=ak5 n (by omega);rw[ajZ (by omega),Int.add_emod_right];rw[Int.tmod_eq_emod];split
  simp_all;have:n % d - (d.natAbs:Int)=n % d+d*(-1):=by omega
  simp_all
 have a1: -d<Int.tmod n d:=ak5 n (by omega);have a2:Int.tmod n d<d:=Int.tmod_lt_of_pos n (by omega);rw[cI (by omega: -9223372036854775808<=Int.tmod n d+d) (by omega),e1];have b1:=Int.emod_nonneg n (by omega:d≠0);have b2:=ak4 n (by omega:0<d);rw[cI (by omega: -9223372036854775808<=n - n % d) (by omega)];have e2:n - n % d=d*(n / d):=by have:=Int.mul_ediv_add_emod n d;omega
 rw[e2,Int.mul_tdiv_cancel_left _ (by omega)];have c1:n / d<=1152921504606846976:=by
  have:=akC (by omega:0<d) h2;have:=Int.ediv_le_self (b:=d) (by omega:(0:Int)<=1152921504606846976);omega
 have c2: -1152921504606846976<=n / d:=by
  rw[akI (by omega)];omega
 exact cI (by omega) (by omega)
structure Rat (a:Ratio):Prop where
 d1:1<=a.d
 d:a.d<=1073741824
 n0: -1073741824<=a.n
 n:a.n<=1073741824
theorem UE {a:Ratio}(h:bU a=0):Rat a:=by
 unfold bU at h;rw[ai4]at h;split at h
 cases h;rename_i h1;simp only[aiV,decide_eq_true_eq,not_or]at h1;constructor <;>omega
theorem A9 {i:Int}{x:Reach}(h:cg i x=true):kf x.seep=true/\0<=x.evap.lo/\x.evap.lo<=x.evap.hi/\x.evap.hi<=1073741824:=by
 unfold cg at h;cases hd:decide (i > 0) <;>rw[hd]at h <;>simp only[cond_true,cond_false,aim]at h;all_goals
  have r1:=vP h.1.2;exact⟨h.2,r1.1,r1.2.1,r1.2.2⟩
theorem aaU {a b:Int}(h0: -1073741824<=a)(h1:a<=1073741824)(h2:0<=b)(h3:b<=1073741824): -1152921504606846976<=a*b/\a*b<=1152921504606846976:=by
 have h4:=aiG h0 h2;have h5:=aiG h1 h2;omega
structure Seep (x:Ratio×Ratio):Prop where
 r1:Rat x.1
 r2:Rat x.2
 c1:bU x.1=0
 c2:bU x.2=0
 cmp:iX x.1 x.2=((iX x.1 x.2).1,0)/\(iX x.1 x.2).1<=0
 le:x.1.n*x.2.d<=x.2.n*x.1.d
 n1:0<=x.1.n
 n2:x.2.n<=x.2.d
 m1:x.1.n<=x.1.d
 m2:0<=x.2.n
theorem JY {x:Ratio×Ratio}(h:kf x=true):Seep x:=by
 unfold kf at h;simp only[aim,beq_iff_eq,decide_eq_true_eq]at h;obtain⟨⟨⟨h1,h2⟩,h3⟩,h4⟩:=h;have hc:bU x.1=0/\bU x.2=0:=by
  unfold iX at h1;grind
 have r1:=UE hc.1;have r2:=UE hc.2;have b1:=aaU r1.n0 r1.n (by have:=r2.d1;omega) r2.d;have b2:=aaU r2.n0 r2.n (by have:=r1.d1;omega) r1.d;have hle:x.1.n*x.2.d<=x.2.n*x.1.d:=by
  unfold iX at h3;rw[hc.1,hc.2]at h3;simp only[bne_self_eq_false,Bool.or_self,cond_false]at h3;grind [cI,lT]
 have e1:=r1.d1;have e2:=r2.d1;have m1:x.1.n<=x.1.d:=by
  have:=aiG h4 (by omega:0<=x.1.d);have hh:x.1.n*x.2.d<=x.1.d*x.2.d:=by grind
  exact aj0 hh (by omega)
 have m2:0<=x.2.n:=by
  have:=ajp h2 (by omega:0<=x.2.d);have hh:0*x.1.d<=x.2.n*x.1.d:=by omega
  exact aj0 hh (by omega)
 exact⟨r1,r2,hc.1,hc.2,⟨by rw[<-h1],h3⟩,hle,h2,h4,m1,m2⟩
theorem Rj {x:Ratio×Ratio}(h:Seep x):pu x=true:=by
 unfold pu qP ue;have:=h.n1;have:=h.n2;have:=h.m1;have:=h.m2;rw[h.c1,h.c2,decide_eq_true (by omega:x.1.n>=0),decide_eq_true (by omega:x.1.n<=x.1.d),decide_eq_true (by omega:x.2.n>=0),decide_eq_true (by omega:x.2.n<=x.2.d)];have h2:=congrArg Prod.snd h.cmp.1;dsimp only at h2;rw[h2,decide_eq_true h.cmp.2];rfl
theorem Gy {a:Ratio}(h:Rat a)(hc:bU a=0)(h0:0<=a.n){v:Int}(v0:0<=v)(v1:v<=1073741824):(kh a v).1=a.n*v / a.d/\(kh a v).2.1= -(-(a.n*v) / a.d)/\ -(-(a.n*v) / a.d)<=1152921504606846976/\0<= -(-(a.n*v) / a.d):=by
 have:=h.d1;have:=h.d;have:=h.n;have hm:=aaU (by omega) h.n v0 v1;have hm0:=ajp h0 v0;unfold kh;have e1:(decide (v< (-1073741824)) ||decide (v > 1073741824))=false:=by grind
 rw[hc,e1];simp only[bne_self_eq_false,cond_false];rw[cI (by omega: -9223372036854775808<=0 - a.n) (by omega)];have e2:(0 - a.n)*v= -(a.n*v):=by grind
 rw[e2,cI (by omega: -9223372036854775808<= -(a.n*v)) (by omega),cI (by omega: -9223372036854775808<=a.n*v) (by omega)];rw[PB h.d1 h.d (by omega) (by omega),PB h.d1 h.d (by omega) (by omega)];have c1: -1152921504606846976<= -(a.n*v) / a.d:=by
  rw[akI (by omega)];omega
 have c2: -(a.n*v) / a.d<=0:=by
  have:=akC (by omega:0<a.d) (by omega: -(a.n*v)<=0);simp_all
 grind [cI]
theorem Eo {i:Int}{x:Reach}(h:cg i x=true){v:Int}(v0:0<=v)(v1:v<=1073741824):iF x v=0/\0<=(iJ x v).lo/\(iJ x v).lo<=(iJ x v).hi/\(iJ x v).hi<=v:=by
 obtain⟨h1,h2,h3,h4⟩:=A9 h;have hs:=JY h1;refine⟨?_,?_⟩;grind [iF,qO,ue,Rj]
 unfold iJ;cases hv:(v==0)with
 |true=>
  grind
 |false=>
  simp only[beq_eq_false_iff_ne,ne_eq]at hv;simp only[cond_false];obtain⟨a1,_,_,_⟩:=Gy hs.r1 hs.c1 hs.n1 v0 v1;obtain⟨_,b1,b2,b3⟩:=Gy hs.r2 hs.c2 hs.m2 v0 v1;rw[a1,b1];have d1:=hs.r1.d1;have d2:=hs.r2.d1;have P0:0<=x.seep.1.n*v / x.seep.1.d:=Int.ediv_nonneg (ajp hs.n1 v0) (by omega);have P1:x.seep.1.n*v / x.seep.1.d*x.seep.1.d<=x.seep.1.n*v:=Int.ediv_mul_le _ (by omega);have Q1: -(x.seep.2.n*v) / x.seep.2.d*x.seep.2.d<= -(x.seep.2.n*v):=Int.ediv_mul_le _ (by omega);generalize x.seep.1.n*v / x.seep.1.d=P at P0 P1;generalize -(x.seep.2.n*v) / x.seep.2.d=Q at b2 b3 Q1;have PV:P<=v:=by
   have:=aiG hs.m1 v0;have hh:P*x.seep.1.d<=v*x.seep.1.d:=by grind
   exact aj0 hh (by omega)
  have PQ:P<= -Q:=by
   have e1:=aiG P1 (by omega:0<=x.seep.2.d);have e2:=aiG hs.le v0;have e3:=aiG Q1 (by omega:0<=x.seep.1.d);have hh:P*(x.seep.1.d*x.seep.2.d)<= -Q*(x.seep.1.d*x.seep.2.d):=by
    grind
   have hp:0<x.seep.1.d*x.seep.2.d:=Int.mul_pos (by omega) (by omega);simp_all
  grind [cI]
def ua (r:Reach)(v:Int):Int×Int:=(bif((iF r v) !=0)then(0,(iF r v))else((i64.wrap (v - (iJ r v).hi)),0))
def wst (x:Reach)(v:Int):Int:=v - (iJ x v).hi
theorem xW {i:Int}{x:Reach}(h:cg i x=true){v:Int}(v0:0<=v)(v1:v<=1073741824):ua x v=(wst x v,0):=by
 obtain⟨e,h1,h2,h3⟩:=Eo h v0 v1;grind [ua,wst,cI]
theorem UF {i:Int}{x:Reach}(h:cg i x=true){v:Int}(v0:0<=v)(v1:v<=1073741824):wst x v=max 0 ((x.seep.2.d - x.seep.2.n)*v / x.seep.2.d - x.evap.hi):=by
 obtain⟨g1,g2,g3,g4⟩:=A9 h;have hs:=JY g1;have d1:=hs.r2.d1;have hk:(x.seep.2.d - x.seep.2.n)*v / x.seep.2.d=v+ -(x.seep.2.n*v) / x.seep.2.d:=by
  grind [Int.add_mul_ediv_left]
 rw[hk];unfold wst iJ;cases hv:(v==0)with
 |true=>
  simp only[beq_iff_eq]at hv;subst hv;simp only[cond_true,Int.mul_zero,Int.neg_zero,Int.zero_ediv];omega
 |false=>
  simp only[cond_false];obtain⟨_,b1,b2,b3⟩:=Gy hs.r2 hs.c2 hs.m2 v0 v1;grind [cI]
theorem XI {k d a b:Int}(hk:0<=k)(hd:1<=d)(h:a<=b):k*a / d<=k*b / d:=akC (by omega) (ajO h hk)
section
variable {i:Int}{x:Reach}
theorem UG (h:cg i x=true){v:Int}(v0:0<=v)(v1:v<=1073741824):0<=wst x v/\wst x v<=v:=by
 have:=Eo h v0 v1;unfold wst;omega
theorem L5 (h:cg i x=true){a b:Int}(a0:0<=a)(hab:a<=b)(b1:b<=1073741824):wst x a<=wst x b:=by
 have hs:=JY (A9 h).1;have:=hs.r2.d1;rw[UF h a0 (by omega),UF h (by omega) b1];have:=XI (k:=x.seep.2.d - x.seep.2.n) (d:=x.seep.2.d) (by have:=hs.n2;omega) hs.r2.d1 hab;omega
theorem UH (h:cg i x=true):wst x 0=0:=by
 rfl
end
theorem half {i j:Int}(h0:0<=i)(h1:i<=j)(h2:j<=2305843009213693952):i64.wrap (RD .u64 (u64.wrap (i64.wrap (i+j))) 1)=(i+j) / 2:=by
 have e0:i64.wrap (i+j)=i+j:=cI (by omega) (by omega);have e:u64.wrap (i+j)=i+j:=by
  grind [IntKind.wrap,IntKind.bits]
 have e2:RD .u64 (i+j) 1=(i+j) / 2:=by
  show Int.fdiv (i+j) ((2:Int) ^ min (Int.toNat 1) u64.bits)=_;have:(2:Int) ^ min (Int.toNat 1) u64.bits=2:=by decide
  grind
 grind [cI]
theorem NK {f:Int->Bool}{N:Int}{step:Nat->Int×Int->Int⊕(Int×Int)}(hN:N<=2305843009213693952)
  (hs:∀ k i j,0<=i->i<j->j<=N->step k (i,j)=if f ((i+j) / 2)=true then .inr (i,(i+j) / 2)else .inr ((i+j) / 2+1,j)) (he:∀ k i j,¬i<j->step k (i,j)=.inl i):
  ∀ (fuel k:Nat) (i j:Int),0<=i->i<=j->j<=N->j - i<2 ^ fuel->∃ v,aq step (fuel+1) k (i,j)=.inl v/\i<=v/\v<=j/\
   ((∀ a b,0<=a->a<=b->b<N->f a=true->f b=true)->(∀ u,i<=u->u<v->f u=false)/\(v<j->f v=true)):=by
 intro fuel;induction fuel with
 |zero=>
  intro k i j h0 h1 h2 h3;have:j=i:=by omega
  subst this;exact⟨j,by grind [aq],ajc _,ajc _,fun _=>⟨fun u h4 h5=>by omega,fun h=>by omega⟩⟩
 |succ fuel ih=>
  intro k i j h0 h1 h2 h3;by_cases hlt:i<j
  have hp:(2:Int) ^ (fuel+1)=2 ^ fuel+2 ^ fuel:=by omega
  rw[show fuel+1+1=(fuel+1)+1 from rfl];simp only[aq,hs k i j h0 hlt h2];by_cases hf:f ((i+j) / 2)=true
  rw[if_pos hf];obtain⟨v,e1,e2,e3,e4⟩:=ih (k+1) i ((i+j) / 2) h0 (by omega) (by omega) (by omega);refine⟨v,e1,e2,by omega,fun hm=>⟨(e4 hm).1,fun _=>?_⟩⟩;grind
  rw[if_neg hf];obtain⟨v,e1,e2,e3,e4⟩:=ih (k+1) ((i+j) / 2+1) j (by omega) (by omega) h2 (by omega);refine⟨v,e1,by omega,e3,fun hm=>⟨fun u h4 h5=>?_,(e4 hm).2⟩⟩;grind
  have:j=i:=by omega
  subst this;exact⟨j,by grind [aq],ajc _,ajc _,fun _=>⟨fun u h4 h5=>by omega,fun h=>by omega⟩⟩
theorem Iy (w:Int)(x:Reach):∃ v,aq (lg x w) 64 0 (0,1073741825)=.inl v/\0<=v/\v<=1073741825/\
  ((∀ a b,0<=a->a<=b->b<1073741825->f7 a x w=true->f7 b x w=true)->(∀ u,0<=u->u<v->f7 u x w=false)/\(v<1073741825->f7 v x w=true)):=by
 refine NK (f:=fun v=>f7 v x w) (N:=1073741825) (by omega) (fun k i j h0 h1 h2=>?_) (fun k i j h=>?_) 63 0 0 1073741825 (by omega) (by omega) (by omega) (by decide);unfold lg;simp only;rw[half h0 (by omega) (by omega),decide_eq_true h1,cI (by omega) (by omega)];grind
 grind [lg]
theorem UJ (w:Int)(x:Reach):sA 1073741825 x w:=fun z hz=>by
 obtain⟨v,h,_⟩:=Iy w x;grind
theorem PC (x:Reach)(w:Int):pw x w:=fun _=>UJ _ x
theorem UK (x:Reach)(w:Int):oL x w:=fun _=>PC x w
section
variable {i:Int}{x:Reach}
theorem UL (h:cg i x=true){w:Int}(hw:1<=w)(hw2:w<=1073741824):0<=gh (w - 1) x/\gh (w - 1) x<=1073741825/\(∀ u,0<=u->u<gh (w - 1) x->wst x u<w)/\(gh (w - 1) x<=1073741824->w<=wst x (gh (w - 1) x)):=by
 obtain⟨v,e1,e2,e3,e4⟩:=Iy (w - 1) x;have ev:gh (w - 1) x=v:=by grind [gh,vL]
 have hf:∀ u,0<=u->u<=1073741824->(f7 u x (w - 1)=true↔w<=wst x u):=fun u u0 u1=>by
  have:=Eo h u0 u1;unfold f7 sw wst;rw[cI (by omega) (by omega),decide_eq_true_eq];omega
 obtain⟨e5,e6⟩:=e4 fun a b a0 hab hb ha=>(hf b (by omega) (by omega)).2 (by
  have:=L5 h a0 hab (by omega);grind)
 grind
theorem Dd (h0:0<=i)(h:cg i x=true){w:Int}(hw:1<=w):(∃ v,aQ x w=(v,true)/\1<=v/\v<=1073741824/\x.siphon<=v/\w<=wst x v/\∀ u,0<=u->u<=1073741824->x.siphon<=u->w<=wst x u->v<=u)\/
  ((aQ x w).2=false/\∀ u,0<=u->u<=1073741824->wst x u<w):=by
 have hr:=Ix h0 h;unfold aQ;have hw0:(w==0)=false:=by grind
 by_cases hw2:w<=1073741824
 have hc:(w==0||decide (w > 1073741824))=false:=by grind
 rw[hc,hw0];simp only[cond_false];obtain⟨l1,l2,l3,l4⟩:=UL h hw hw2;unfold iK;have hv:(iF x w !=0)=false:=by grind [Eo]
 rw[hv,cI (by omega) (by omega)];simp only[cond_false];by_cases hl:gh (w - 1) x<=1073741824
 rw[decide_eq_false (by omega)];simp only[cond_false,aiP];have l5:=l4 hl;have l6:=UG h l1 hl;refine .inl ⟨_,rfl,?_,?_,?_,?_,fun u u0 u1 u2 u3=>?_⟩;omega;have:=hr.siphon;have:=hr.cap;omega;omega;have:=hr.siphon;have:=hr.cap;split
 exact akp l5 (L5 h l1 (by omega) (by omega));exact l5;grind
 grind
 have hc:(w==0||decide (w > 1073741824))=true:=by grind
 rw[hc];refine .inr ⟨by grind,fun u u0 u1=>?_⟩;have:=UG h u0 u1;omega
end
end Go.Sx
end
section
namespace Go.Proofs
open Go.Shelf
def Tryz.sortL_ren:Go.Shelf.Ren:=⟨fun|6=>185|15=>144|14=>215|28=>199|29=>200|20=>237|21=>238|22=>239|23=>240|24=>241|25=>242|26=>243|27=>244|46=>257|47=>225|48=>226|49=>258|50=>259|57=>267|n=>n,fun|22=>83|24=>235|25=>246|3=>3|39=>211|0=>0|53=>262|55=>120|4=>4|46=>256|45=>255|50=>133|5=>5|9=>9|66=>277|70=>281|76=>296|77=>297|n=>n,fun|n=>n⟩
theorem Tryz.sortL:Go.Proofs.SlLaysF0.n6 Tryz.prog Tryz.sortL_ren:= {
 mixed:=by kernel_rfl
 f6:=⟨Tryz.f185.name,by decide,Tryz.func185.trans (congrArg some (by kernel_rfl))⟩
 f14:=⟨Tryz.f215.name,by decide,Tryz.func215.trans (congrArg some (by kernel_rfl))⟩
 f15:=Tryz.func144.trans (congrArg some (by kernel_rfl))
 f20:=⟨Tryz.f237.name,by decide,Tryz.func237.trans (congrArg some (by kernel_rfl))⟩
 f21:=⟨Tryz.f238.name,by decide,Tryz.func238.trans (congrArg some (by kernel_rfl))⟩
 f22:=⟨Tryz.f239.name,by decide,Tryz.func239.trans (congrArg some (by kernel_rfl))⟩
 f23:=⟨Tryz.f240.name,by decide,Tryz.func240.trans (congrArg some (by kernel_rfl))⟩
 f24:=⟨Tryz.f241.name,by decide,Tryz.func241.trans (congrArg some (by kernel_rfl))⟩
 f25:=⟨Tryz.f242.name,by decide,Tryz.func242.trans (congrArg some (by kernel_rfl))⟩
 f26:=⟨Tryz.f243.name,by decide,Tryz.func243.trans (congrArg some (by kernel_rfl))⟩
 f27:=⟨Tryz.f244.name,by decide,Tryz.func244.trans (congrArg some (by kernel_rfl))⟩
 f28:=Tryz.func199.trans (congrArg some (by kernel_rfl))
 f29:=Tryz.func200.trans (congrArg some (by kernel_rfl))
 f46:=⟨Tryz.f257.name,by decide,Tryz.func257.trans (congrArg some (by kernel_rfl))⟩
 f47:=Tryz.func225.trans (congrArg some (by kernel_rfl))
 f48:=Tryz.func226.trans (congrArg some (by kernel_rfl))
 f49:=⟨Tryz.f258.name,by decide,Tryz.func258.trans (congrArg some (by kernel_rfl))⟩
 f50:=⟨Tryz.f259.name,by decide,Tryz.func259.trans (congrArg some (by kernel_rfl))⟩
 f57:=⟨Tryz.f267.name,by decide,Tryz.func267.trans (congrArg some (by kernel_rfl))⟩
 t0:=Tryz.underlying0
 a0:=Tryz.isAgg0
 z0:=Tryz.sizeOf0
 v0:=Tryz.zeroValue0
 t3:=Tryz.underlying3
 a3:=Tryz.isAgg3
 z3:=Tryz.sizeOf3
 v3:=Tryz.zeroValue3
 t4:=Tryz.underlying4
 a4:=Tryz.isAgg4
 z4:=Tryz.sizeOf4
 v4:=Tryz.zeroValue4
 t5:=Tryz.underlying5
 a5:=Tryz.isAgg5
 z5:=Tryz.sizeOf5
 v5:=Tryz.zeroValue5
 t9:=Tryz.underlying9
 a9:=Tryz.isAgg9
 z9:=Tryz.sizeOf9
 v9:=Tryz.zeroValue9
 t22:=Tryz.underlying83
 a22:=Tryz.isAgg83
 z22:=Tryz.sizeOf83
 v22:=Tryz.zeroValue83
 t25:=Tryz.underlying246
 a25:=Tryz.isAgg246
 z25:=Tryz.sizeOf246
 v25:=Tryz.zeroValue246
 t39:=Tryz.underlying211
 a39:=Tryz.isAgg211
 z39:=Tryz.sizeOf211
 v39:=Tryz.zeroValue211
 t45:=Tryz.underlying255
 a45:=Tryz.isAgg255
 z45:=Tryz.sizeOf255
 v45:=Tryz.zeroValue255
 t46:=Tryz.underlying256
 a46:=Tryz.isAgg256
 z46:=Tryz.sizeOf256
 v46:=Tryz.zeroValue256
 t50:=Tryz.underlying133
 a50:=Tryz.isAgg133
 z50:=Tryz.sizeOf133
 v50:=Tryz.zeroValue133
 t53:=Tryz.underlying262
 a53:=Tryz.isAgg262
 z53:=Tryz.sizeOf262
 v53:=Tryz.zeroValue262
 t55:=Tryz.underlying120
 a55:=Tryz.isAgg120
 z55:=Tryz.sizeOf120
 v55:=Tryz.zeroValue120
 t66:=Tryz.underlying277
 a66:=Tryz.isAgg277
 z66:=Tryz.sizeOf277
 v66:=Tryz.zeroValue277
 t70:=Tryz.underlying281
 a70:=Tryz.isAgg281
 z70:=Tryz.sizeOf281
 v70:=Tryz.zeroValue281
 t76:=Tryz.underlying296
 a76:=Tryz.isAgg296
 z76:=Tryz.sizeOf296
 v76:=Tryz.zeroValue296
 t77:=Tryz.underlying297
 a77:=Tryz.isAgg297
 z77:=Tryz.sizeOf297
 v77:=Tryz.zeroValue297}
end Go.Proofs
end
section
namespace Go.Sx
open Go.Proofs
@[go_sem] def vb (l_:List Int)(k_0:Nat)(s_0:Unit):Int⊕Unit:=(bif((l_.getD k_0 0) !=0)then .inl (l_.getD k_0 0)else .inr ())
def fJ (l_:List Int):Int:=(match aq (vb l_) l_.length 0 ()with| .inl x_0_0=>x_0_0| .inr s_0=>0)
@[go_sem] def ru:List SV->Option Con:=(pR .int fun l_=>(pE (.det True (.v (.int .i64 (fJ l_))))))
theorem ve:FnOk Tryz.prog 187 ru:=by
 have hG:ConsOk Tryz.prog (mkG [] []):=av cg0 cg0;refine ax [.o] mixed am hG (fn:=Tryz.f187) (c:=aa Tryz.f187) kr kr kr kr (bB fun l_=>(aj (fun hp=>?_)));dsimp only[aw]at hp;refine⟨nbl rfl,(fun id st=>bif Nat.beq id 0 then some (LCR (ρ:=Int) (σ:=Unit) 0 [] [] (fun k_0 s_0=>⟨[(5,.rs .int l_),(6,.v (.int .i64 (l_.length:Int))),(7,.v (.int .i64 (k_0:Int)))],[]⟩) (vb l_) pT l_.length () (l_.length<=aI) (fun _=>.ret) (fun x_0_0=>⟨[(2,.v (.int .i64 x_0_0))],[]⟩) st)else none),?_,?_⟩;unfold aa Tryz.f187;simp only[ap,true_and,and_true];refine a8 mixed am hG kr (fun _=>rfl) (l_.length:Int) rfl iB (fun hb0 k_0 s_0 hlt0 _ hw hc=>⟨L0,ag _,?_⟩) (fun hb0 s_0 hc=>?_);exact bT (jl []);exact bN (jl []);unfold aa Tryz.f187;try unfold fJ
 exact zq1
def aB (a:Order)(b:Order):Int:=(fJ ([(bq a.hour b.hour),(bq a.index b.index)]))
@[go_sem] def rN:List SV->Option Con:=(pD .order fun a=>(pD .order fun b=>(pE (.det True (.v (.int .i64 (aB a b)))))))
theorem xX:FnOk Tryz.prog 211 rN:=by
 have hG:ConsOk Tryz.prog (mkG [(97,fS),(187,fun l=>ru (bD [.sl .int] l))] []):=av (cgc iC (cgc (ve.norm [.sl .int]) cg0)) cg0;refine ax [.o] mixed am hG (fn:=Tryz.f211) (c:=aa Tryz.f211) kr kr kr kr (a7 fun a=>(a7 fun b=>(aj (fun hp=>?_))));dsimp only[aw]at hp;refine⟨nbl rfl,L0,ag _,?_⟩;unfold aa Tryz.f211;try unfold aB
 exact zq1
def rv (x:Order):Bool:=(decide (x.litres > 1073741824))
@[go_sem] def tR:List SV->Option Con:=(pD .order fun x=>(pE (.det True (.v (.bool (rv x))))))
theorem zq:FnOk Tryz.prog 180 tR:=by
 have hG:ConsOk Tryz.prog (mkG [] []):=av cg0 cg0;refine ax [.o] mixed am hG (fn:=Tryz.f180) (c:=aa Tryz.f180) kr kr kr kr (a7 fun x=>(aj (fun hp=>?_)));dsimp only[aw]at hp;refine⟨nbl rfl,L0,ag _,?_⟩;unfold aa Tryz.f180;try unfold rv
 exact zq1
theorem L6 (x:Int)(l:List Int):fJ (x::l)=if x=0 then fJ l else x:=by
 have key:∀ l:List Int,fJ l=match dR (ρ:=Int) (fun(x:Int) (_:Unit) =>bif(x !=0)then .inl x else .inr ()) l ()with| .inl y=>y| .inr _=>0:=fun l=>by
  unfold fJ;have:=xM (ρ:=Int) (fun(x:Int) (_:Unit) =>bif(x !=0)then .inl x else .inr ()) 0 l ();rw[<-this];rfl
 rw[key,key];simp only[dR];grind
theorem NL:fJ []=0:=rfl
def JZ:List (Int×Int)->Prop
 | [] =>False|(a,b)::r=>a<b\/a=b/\JZ r
theorem Gz:∀ l:List (Int×Int),(fJ (l.map fun p=>bq p.1 p.2) <0↔JZ l)
 | [] =>by simp[NL,JZ]
 |(a,b)::r=>by
  have hc:=lT a b;simp only[aiW,L6,hc,JZ];rcases aku a b with h|h|h;simp[h];subst h;simp only[ak0,if_false,if_true,true_and,false_or,gt_iff_lt];exact Gz r;omega
def Rk (a b:Order):Prop:=JZ [(a.hour,b.hour),(a.index,b.index)]
theorem xY (a b:Order):aB a b<0↔Rk a b:=Gz [(a.hour,b.hour),(a.index,b.index)]
open Go.Shelf Go.Sort in
theorem v6:SWO (ltOf aB):=TJ xY (fun x=>by simp_all [Rk,JZ]) (fun x y z h1 h2=>by simp only[Rk,JZ,and_false,or_false]at *;omega) (fun x y z h1 h2=>by simp only[Rk,JZ,and_false,or_false]at *;omega)
end Go.Sx
end
section
namespace Go.Sx
open Go.Lib Go.Proofs Go.RowKit Go.Shelf Go.Sort
noncomputable def qj:List SV->List Ob->Option HCon:=fun l h=>orC (n_ .order 245 [.ep [o_] 0] aA l h) (n_ .order 211 [] aB l h)
@[go_sem] theorem Vx {l0:List Order}:qj [.os 0,.fn 245 [] [.ep [o_] 0]] [.row .order l0]=some (jF (apart aA l0) (.tup []) [.row .order (srt aA l0)]):=by
 unfold qj;rw[Az];rfl
@[go_sem] theorem UN {l0:List Order}:qj [.os 0,.fn 211 [] []] [.row .order l0]=some (jF (apart aB l0) (.tup []) [.row .order (srt aB l0)]):=by
 unfold qj;rw[Az];have:n_ .order 245 [.ep [o_] 0] aA [.os 0,.fn 211 [] []] [.row .order l0]=none:=by simp[n_,Nn]
 rw[this];rfl
theorem DG:C1 .order:=fun x s hs=>by
 simp only[cellsOf,aiu,ai9,or_false]at hs;rcases hs with rfl|rfl|rfl|rfl;all_goals exact⟨_,rfl,rfl⟩
theorem UO (x y:Order):lh (.agg (cellsOf .order x):: .agg (cellsOf .order y)::[.ep [o_] 0])=some (.det True (.v (.int .i64 (aA x y)))):=by
 simp only[go_sem,Nat.reduceBEq]
theorem DH (x y:Order):rN (.agg (cellsOf .order x):: .agg (cellsOf .order y)::[])=some (.det True (.v (.int .i64 (aB x y)))):=by
 rfl
theorem DI:FnOkO Tryz.prog 185 qj:=by
 refine FnOkO.or ?_ ?_;refine DF (k:=.order) Tryz.sortL (fun w=>by kernel_rfl) (fun w=>by kernel_rfl) DG (by decide) (g:=245) (caps:=[.ep [o_] 0]) x9 (cf:=aA) UO JX (fun s hs=>?_) ⟨default,default,UO _ _⟩;simp only[aiu,ai9,or_false]at hs;subst hs;exact iI 5 _ rfl;exact DF (k:=.order) Tryz.sortL (fun w=>by kernel_rfl) (fun w=>by kernel_rfl) DG (by decide) (g:=211) (caps:=[]) xX (cf:=aB) DH v6 (fun s hs=>by cases hs) ⟨default,default,DH _ _⟩
end Go.Sx
end
section
namespace Go.Sx
open Go.Proofs
open IntKind (i64)
@[go_sem] def zr:List SV->Option Con:=pR .order fun l=>pE (.det (l.length*32<=di) (.nw .order l))
theorem D6:FnOk Tryz.prog 182 zr:=by
 have hG:ConsOk Tryz.prog (mkG [] []):=av cg0 cg0;refine F8 [(.tmp 2,.order)] mixed am hG (fn:=Tryz.f182) (c:=aa Tryz.f182) kr kr kr kr (bB fun l=>aj fun hp=>?_);dsimp only[aw]at hp;refine⟨nbl rfl,L0,ag _,?_⟩;unfold aa Tryz.f182;simp only[go_sem,Nat.reduceBEq,Nat.reduceLeDiff,Nat.reduceAdd,Nat.reduceSub,Nat.reduceMul,Int.reduceLE,Int.reduceLT,Int.reduceToNat,Int.reduceNeg,reduceCtorEq];intro b hb;refine⟨fun h=>?_,fun _=>⟨hp,fun _=>rfl⟩⟩;have hl:=hb h;subst hl;rfl
def GA (x:Int×Int):List SV:=[.v (.int .i64 x.1),.v (.int .i64 x.2)]
def z8 (H:Nat):Nat->List (Int×Int)
 |0=>[]
 |r+1=>((List.range H).map fun h:Nat=>((r:Int),(h:Int)))++z8 H r
def cK (d:District):List (Int×Int):=z8 d.hours.toNat d.reaches.length
theorem YR {j:Nat}(hj:j<=aI):i64.wrap ((j:Int) - 1)=(j:Int) - 1:=by unfold aI at hj;exact cI (by omega) (by omega)
@[go_sem] def lK:List SV->Option Con:=pD .district fun d=>pE (.det True (.fn 214 [] [.ep (cellsOf .district d) 0]))
theorem Cl:FnOk Tryz.prog 183 lK:=by
 have hG:ConsOk Tryz.prog (mkG [] []):=av cg0 cg0;refine ax [.o] mixed am hG (fn:=Tryz.f183) (c:=aa Tryz.f183) kr kr kr kr (a7 fun l=>aj fun hp=>?_);refine⟨nbl rfl,L0,ag _,?_⟩;unfold aa Tryz.f183;simp only[go_sem,zg,zh,Nat.reduceBEq,Nat.reduceLeDiff,Nat.reduceAdd,Nat.reduceSub,Nat.reduceMul]
theorem XJ {α:Type}{l m:List α}{x:α}{k:Nat}(h:l.drop k=x::m):l[k]? =some x/\k+1<=l.length/\l.drop (k+1)=m:=by
 have h0:(l.drop k)[0]? =l[k]?:=by grind
 rw[h]at h0;refine⟨h0.symm,?_,by rw[<-List.drop_drop,h];rfl⟩;grind
def D7 (r H h:Nat):List (Int×Int):=((List.range' h (H - h)).map fun h:Nat=>((r:Int),(h:Int)))
theorem uj {r H h:Nat}(hh:h<H):D7 r H h=((r:Int),(h:Int))::D7 r H (h+1):=by
 unfold D7;rw[show H - h=(H - (h+1))+1 by omega,aj1];rfl
theorem Cm {r H:Nat}:D7 r H H=[]:=by simp[D7]
theorem zt {H r:Nat}:z8 H (r+1)=D7 r H 0++z8 H r:=by
 grind [D7,z8,List.range_eq_range']
open Classical in
theorem Rl (d:District)(hH:d.hours<9223372036854775808):FG Tryz.prog 214 (fun y=>[y,.ep (cellsOf .district d) 0]) [] ((cK d).map GA):=by
 unfold cK;generalize hI:(z8 d.hours.toNat d.reaches.length).map GA=items;refine SQ (fun r hr hy=>?_) (fun args w=>by kernel_rfl);have hG:ConsOk Tryz.prog (BK [] [] (itY items r)):=zK (by simp) (by simp) hy;refine⟨fun l h=>if l=[.os 0,.ep (cellsOf .district d) 0]/\h=[.ab (r 1)]then some { α:=Nat,pre:=True,post:=fun j=>j=0\/j=items.length+1,res:=fun j=>.ret (.tup []) [.ab (r j)]}else none,
  ?_,_,if_pos ⟨rfl,rfl⟩,trivial,fun j hj=>⟨_,j,_,rfl,hj⟩⟩
 refine FC mixed am hG (fn:=Tryz.f214) (c:=aa Tryz.f214) kr kr kr kr fun l o con h hp=>?_;split at h
 rotate_left
 cases h;rename_i hlo;obtain⟨rfl,rfl⟩:=hlo;cases h;refine⟨nbl rfl,fun id st=>bif Nat.beq id 0 then some { α:=Bool,pre:=lk 0 st.t=.os 0/\lk 1 st.t=.ep (cellsOf .district d) 0/\lk 3 st.t=.v (.int .i64 ((d.reaches.length:Int) - 1))/\st.h=[.ab (r 1)]/\d.reaches.length<=aI,post:=fun _=>True,ex:=fun b=>bif b then .normal else .ret,out:=fun b=>⟨[],[.ab (r (bif b then items.length+1 else 0))]⟩:LCon}else none,?_,?_⟩
 ·unfold aa Tryz.f214;simp only[ap,true_and,and_true];refine BH mixed am hG kr fun st lc hC hp=>?_;simp only[go_sem,Nat.reduceBEq,aip]at hC;subst hC;obtain⟨t,h⟩:=st;dsimp only at hp;obtain⟨h0,h1,h2,rfl,hm⟩:=hp;refine⟨Nat×Nat,fun x=>⟨[(0,.os 0),(1,.ep (cellsOf .district d) 0),(3,.v (.int .i64 ((x.2:Int) - 1)))],[.ab (r (x.1+1))]⟩,fun x=>x.2<=d.reaches.length/\items.drop x.1=(z8 d.hours.toNat x.2).map GA/\x.1<=items.length,fun x=>x.2,(0,d.reaches.length),[0],⟨aio _,hI.symm,aiX _⟩,aio _,?_,?_⟩;simp only[go_sem,h0,h1,h2,Nat.reduceBEq,Nat.reduceLeDiff,Nat.reduceAdd,true_and,and_true];rfl
  ·rintro⟨k,j⟩ ⟨hj,hdrop,hk⟩;simp only at hj hdrop hk;cases j with
   |zero=>
    refine⟨L0,_,ag _,fun _ _ q=>q,?_⟩;simp only[go_sem,Jw hr,true_imp_iff,decide_eq_true_eq,ait,false_imp_iff,Nat.reduceBEq,Nat.reduceLeDiff,Nat.reduceAdd,Nat.reduceSub,Nat.reduceMul,true_and,and_true,implies_true];refine⟨fun hn=>absurd hn (by decide),fun hn=>?_⟩;have hlen:(z8 d.hours.toNat 0).length=items.length - k:=by grind [List.length_map]
    have:(z8 d.hours.toNat 0).length=0:=rfl;refine⟨true,[0],?_⟩;have e:items.length+1=k+1:=by omega
    simp only[go_sem,e,Nat.reduceBEq,Nat.reduceLeDiff,Nat.reduceAdd,true_and,and_true];rfl
   |succ j=>
    have ej:((j+1:Nat):Int) - 1=(j:Int):=by omega
    have hw:i64.wrap ((j:Int) - 1)=(j:Int) - 1:=YR (by omega);simp only[ej];refine⟨fun id st=>bif Nat.beq id 2 then some { α:=Nat×Bool,pre:=lk 0 st.t=.os 0/\lk 1 st.t=.ep (cellsOf .district d) 0/\lk 3 st.t=.v (.int .i64 (j:Int))/\lk 14 st.t=.v (.int .i64 d.hours)/\lk 15 st.t=.v (.int .i64 0)/\st.h=[.ab (r (k+1))],post:=fun x=>x.2=true->items.drop x.1=(z8 d.hours.toNat j).map GA/\x.1<=items.length,ex:=fun b=>bif b.2 then .normal else .ret,out:=fun b=>⟨[(0,.os 0),(1,.ep (cellsOf .district d) 0),(3,.v (.int .i64 (j:Int)))],[.ab (r (bif b.2 then b.1+1 else 0))]⟩:LCon}else none,_,?_,fun _ _ q=>q,?_⟩
    ·simp only[ap,true_and,and_true];refine BH mixed am hG kr fun st lc hC hp=>?_;simp only[go_sem,Nat.reduceBEq,aip]at hC;subst hC;obtain⟨t,h⟩:=st;dsimp only at hp;obtain⟨i0,i1,i3,i14,i15,rfl⟩:=hp;refine⟨Nat×Nat,fun x=>⟨[(0,.os 0),(1,.ep (cellsOf .district d) 0),(3,.v (.int .i64 (j:Int))),(14,.v (.int .i64 d.hours)),(15,.v (.int .i64 (x.2:Int)))],[.ab (r (x.1+1))]⟩,fun x=>x.2<=d.hours.toNat/\items.drop x.1=(D7 j d.hours.toNat x.2++z8 d.hours.toNat j).map GA/\x.1<=items.length,fun x=>d.hours.toNat - x.2,(k,0),[0],⟨aiX _,by rw[hdrop,zt],hk⟩,aio _,?_,?_⟩;simp only[go_sem,i0,i1,i3,i14,i15,Nat.reduceBEq,Nat.reduceLeDiff,Nat.reduceAdd,true_and,and_true];grind
     ·rintro⟨k,g⟩ ⟨hg,hdr,hk⟩;simp only at hg hdr hk;refine⟨L0,_,ag _,fun _ _ q=>q,?_⟩;simp only[go_sem,Jw hr,true_imp_iff,decide_eq_true_eq,ait,false_imp_iff,Nat.reduceBEq,Nat.reduceLeDiff,Nat.reduceAdd,Nat.reduceSub,Nat.reduceMul,true_and,and_true,implies_true];refine⟨fun hlt=>?_,fun hge=>?_⟩
      ·have hlt':g<d.hours.toNat:=by omega
       rw[uj hlt',aiF,aiW]at hdr;obtain⟨q1,q2,q3⟩:=XJ hdr;have hw2:i64.wrap ((g:Int)+1)=((g+1:Nat):Int):=Oz hlt' hH;refine⟨q1,⟨(k+1,g+1),[0],⟨hlt',q3,q2⟩,by omega,?_⟩,⟨(0,false),[0],(fun h=>nomatch h),rfl,?_⟩,(fun h=>nomatch h)⟩;all_goals simp only[go_sem,hw2,Nat.reduceBEq,Nat.reduceLeDiff,Nat.reduceAdd,true_and,and_true]
       all_goals (first|done|decide|(repeat' (first|refine And.intro ?_ ?_|rfl|decide)))
      ·have hge':g=d.hours.toNat:=by
        grind
       subst hge';rw[Cm,aiC]at hdr;refine⟨(k,true),[0],fun _=>⟨hdr,hk⟩,rfl,?_⟩;all_goals simp only[go_sem,Nat.reduceBEq,Nat.reduceLeDiff,Nat.reduceAdd,true_and,and_true]
       grind
    ·simp only[go_sem,true_imp_iff,decide_eq_true_eq,ait,false_imp_iff,Nat.reduceBEq,Nat.reduceLeDiff,Nat.reduceAdd,Nat.reduceSub,Nat.reduceMul,true_and,and_true,implies_true];refine⟨fun _ b hb=>?_,fun hn=>absurd (Int.natCast_nonneg j) (by grind)⟩;obtain⟨k',b⟩:=b;cases b with
     |true=>
      obtain⟨q1,q2⟩:=hb rfl;simp only[go_sem,hw,Nat.reduceBEq,Nat.reduceLeDiff,Nat.reduceAdd,true_and,and_true];refine⟨(k',j),[0],⟨by omega,q1,q2⟩,Nat.lt_succ_self _,?_⟩;all_goals simp only[go_sem,hw,Nat.reduceBEq,Nat.reduceLeDiff,Nat.reduceAdd,true_and,and_true]
      rfl
     |false=>
      simp only[go_sem,Nat.reduceBEq,Nat.reduceLeDiff,Nat.reduceAdd,true_and,and_true];refine⟨false,[0],rfl,?_⟩;all_goals simp only[go_sem,hw,Nat.reduceBEq,Nat.reduceLeDiff,Nat.reduceAdd,true_and,and_true]
      rfl
 unfold aa Tryz.f214;simp only[go_sem,true_imp_iff,decide_eq_true_eq,Nat.reduceBEq,Nat.reduceLeDiff,Nat.reduceAdd,Nat.reduceSub,Nat.reduceMul,true_and,and_true,implies_true];intro hm;rw[YR hm];refine⟨⟨rfl,hm⟩,fun b=>?_⟩;cases b;simp only[go_sem];exact⟨0,_,_,[0],.inl rfl,rfl,aio 1,by simp only[go_sem,Nat.reduceBEq,Nat.reduceLeDiff,Nat.reduceAdd,true_and,and_true];rfl⟩;simp only[go_sem];exact⟨items.length+1,_,_,[0],.inr rfl,rfl,aio 1,by simp only[go_sem,Nat.reduceBEq,Nat.reduceLeDiff,Nat.reduceAdd,true_and,and_true];rfl⟩
@[go_sem] def bE (a0:District)(a1:List Order)(k_0:Nat)(s_0:List ((Int×Int)×Int)):Unit⊕(List ((Int×Int)×Int)):=(bif(!(a1.getD k_0 (default:Order)).outlet)then .inl ()else .inr (fN .int2 .int s_0 ((a0.farms.getD (Int.toNat ((a1.getD k_0 (default:Order)).index)) (default:Farm)).reach,(a1.getD k_0 (default:Order)).hour) (i64.wrap ((aZ .int2 .int s_0 ((a0.farms.getD (Int.toNat ((a1.getD k_0 (default:Order)).index)) (default:Farm)).reach,(a1.getD k_0 (default:Order)).hour))+(a1.getD k_0 (default:Order)).litres))))
def kD (a0:District)(a1:List Order)(k_0:Nat)(s_0:List ((Int×Int)×Int)):Prop:=((!(a1.getD k_0 (default:Order)).outlet)=false->(0<=(a1.getD k_0 (default:Order)).index/\(a1.getD k_0 (default:Order)).index< (a0.farms.length:Int)))
@[go_sem] def aH (a0:District)(z_1:Int×Int)(s_1:List Order×List ((Int×Int)×Int)):(List ((Int×Int)×Int))⊕(List Order×List ((Int×Int)×Int)):=(bif((aZ .int2 .int s_1.2 (z_1.1,z_1.2)) ==0)then .inr (s_1.1,s_1.2)else(bif((!(aQ (a0.reaches.getD (Int.toNat z_1.1) (default:Reach)) (aZ .int2 .int s_1.2 (z_1.1,z_1.2))).2) ||(decide (z_1.2< (a0.reaches.getD (Int.toNat z_1.1) (default:Reach)).delay)))then .inl s_1.2 else .inr ((s_1.1++([({ hour:=(i64.wrap (z_1.2 - (a0.reaches.getD (Int.toNat z_1.1) (default:Reach)).delay)),index:=z_1.1,litres:=(aQ (a0.reaches.getD (Int.toNat z_1.1) (default:Reach)) (aZ .int2 .int s_1.2 (z_1.1,z_1.2))).1,outlet:=false}:Order)])),(fN .int2 .int s_1.2 ((a0.reaches.getD (Int.toNat z_1.1) (default:Reach)).up,(i64.wrap (z_1.2 - (a0.reaches.getD (Int.toNat z_1.1) (default:Reach)).delay))) (i64.wrap ((aZ .int2 .int s_1.2 ((a0.reaches.getD (Int.toNat z_1.1) (default:Reach)).up,(i64.wrap (z_1.2 - (a0.reaches.getD (Int.toNat z_1.1) (default:Reach)).delay))))+(aQ (a0.reaches.getD (Int.toNat z_1.1) (default:Reach)) (aZ .int2 .int s_1.2 (z_1.1,z_1.2))).1))))))
def i4 (a0:District)(z_1:Int×Int)(s_1:List Order×List ((Int×Int)×Int)):Prop:=(((aZ .int2 .int s_1.2 (z_1.1,z_1.2)) ==0)=false->((0<=z_1.1/\z_1.1< (a0.reaches.length:Int))/\((oL (a0.reaches.getD (Int.toNat z_1.1) (default:Reach)) (aZ .int2 .int s_1.2 (z_1.1,z_1.2)))/\(((!(aQ (a0.reaches.getD (Int.toNat z_1.1) (default:Reach)) (aZ .int2 .int s_1.2 (z_1.1,z_1.2))).2) ||(decide (z_1.2< (a0.reaches.getD (Int.toNat z_1.1) (default:Reach)).delay)))=false->((s_1.1++([({ hour:=(i64.wrap (z_1.2 - (a0.reaches.getD (Int.toNat z_1.1) (default:Reach)).delay)),index:=z_1.1,litres:=(aQ (a0.reaches.getD (Int.toNat z_1.1) (default:Reach)) (aZ .int2 .int s_1.2 (z_1.1,z_1.2))).1,outlet:=false}:Order)])).length*32<=di)))))
def bj (a0:District)(a1:List Order):List Order×Bool×Int:=letI q0:=dW a0 a1;(bif(q0 !=0)then([],false,q0)else(match aq (bE a0 a1) a1.length 0 ([])with| .inl x_0_0=>([],false,220) | .inr s_0=>(match dR (aH a0) (cK a0) (a1,s_0)with| .inl x_1_0=>([],false,0) | .inr s_1=>(bif(decide ((s_1.1.length:Int) > 4096))then([],false,2)else((srt aA s_1.1),true,0)))))
def rz (a0:District)(a1:List Order):Prop:=letI q0:=bE a0 a1;letI q1:=aH a0;letI q2:=cK a0;((oM a0 a1)/\(((dW a0 a1) !=0)=false->(a1.length<=aI->(okI q0 (kD a0 a1) a1.length 0 ([])/\(∀ s_0,aq q0 a1.length 0 ([])=.inr s_0->((a1.length*32<=di)/\((a0.hours<9223372036854775808)/\okL q1 (i4 a0) q2 (a1,s_0)/\(∀ s_1,dR q1 q2 (a1,s_0)=.inr s_1->(s_1.1.length<=aI->((decide ((s_1.1.length:Int) > 4096))=false->(apart aA s_1.1)))))))))))
@[go_sem] def zu:List SV->Option Con:=(pD .district fun a0=>(pR .order fun a1=>(pE (.det (rz a0 a1) (.tup [.rs .order ((bj a0 a1).1),.v (.bool ((bj a0 a1).2.1)),.v (.int .i64 ((bj a0 a1).2.2))])))))
theorem afy {l0 l1:List Nat}(a0:JL l0)(a1:JL l1){p:Prop}(h:JL l0->JL l1->p:=by intro ja jb;simp only[go_sem,Nat.reduceBEq,Nat.reduceLeDiff,Nat.reduceLT,decide_true,Nat.reduceAdd,Nat.reduceSub,Nat.reduceMul,Int.reduceLE,Int.reduceLT,Int.reduceToNat,Int.reduceNeg,reduceCtorEq,lK,fo,aH,psT,GA,aiF,aiC];all_goals exact nV ja jb):p:=h a0 a1
theorem YS {l0 l1:List Nat}(a0:JL l0)(a1:JL l1){p:Prop}(h:JL l0->JL l1->p:=by intro ja jb;simp only[go_sem,Nat.reduceBEq,Nat.reduceLeDiff,Nat.reduceLT,decide_true,Nat.reduceAdd,Nat.reduceSub,Nat.reduceMul,Int.reduceLE,Int.reduceLT,Int.reduceToNat,Int.reduceNeg,reduceCtorEq,lK,fo];all_goals exact nV ja jb):p:=h a0 a1
theorem afz {p:Prop}(h:p:=by simp only[go_sem,Nat.reduceBEq,Nat.reduceLeDiff,Nat.reduceLT,decide_true,Nat.reduceAdd,Nat.reduceSub,Nat.reduceMul,Int.reduceLE,Int.reduceLT,Int.reduceToNat,Int.reduceNeg,reduceCtorEq,lK,fo];all_goals exact cl3):p:=h
theorem D8:FnOk Tryz.prog 137 zu:=by
 have hG:ConsOk Tryz.prog (mkG [(181,fun l=>w7 (bD [.st .district,.sl .order] l)),(182,fun l=>zr (bD [.sl .order] l)),(183,fun l=>lK (bD [.st .district] l)),(184,w6),(186,fo)] [(185,qj)]):=av (cgc (BV.norm [.st .district,.sl .order]) (cgc (D6.norm [.sl .order]) (cgc (Cl.norm [.st .district]) (cgc BU (cgc uF cg0))))) (cgc DI cg0);refine ax [.sl .order,.o,.o] mixed am hG (fn:=Tryz.f137) (c:=aa Tryz.f137) kr kr kr kr (a7 fun a0=>(bB fun a1=>(aj (fun hp=>?_))));dsimp only[aw]at hp;unfold rz at hp;refine⟨nbl rfl,(fun id st=>bif Nat.beq id 0 then some (LCR (ρ:=Unit) (σ:=(List ((Int×Int)×Int))) 6 [] [0,1,2,3,4,5] (fun k_0 s_0=>⟨[(1,.rs .order a1),(2,.ptr 0 0),(4,.ptr 1 0),(5,.ptr 2 0),(6,.ptr 3 0),(7,.ptr 5 0),(23,.rs .order a1),(24,.v (.int .i64 (a1.length:Int))),(25,.v (.int .i64 (k_0:Int)))],[.cells (cellsOf .district a0),.cells [.v (.slice none 0 0)],.cells [.v (.bool false)],.cells [.v (.int .i64 (dW a0 a1))],.mp .int2 .int s_0 none,.cells [.os 4]]⟩) (bE a0 a1) (kD a0 a1) a1.length ([]) (a1.length<=aI) (fun _=>.ret) (fun x_0_0=>⟨[(4,.ptr 1 0),(5,.ptr 2 0),(6,.ptr 3 0)],[.dead,.cells [.v (.slice none 0 0)],.cells [.v (.bool false)],.cells [.v (.int .i64 220)],.dead,.dead]⟩) st)else bif Nat.beq id 2 then some (LC (ρ:=List ((Int×Int)×Int)) (σ:=List Order×List ((Int×Int)×Int)) (lk 2 st.t=.ptr 0 0/\lk 4 st.t=.ptr 1 0/\lk 5 st.t=.ptr 2 0/\lk 6 st.t=.ptr 3 0/\lk 7 st.t=.ptr 5 0/\lk 53 st.t=.fn 214 [] [.ep (cellsOf .district a0) 0]/\st.h=[.cells (cellsOf .district a0),.cells [.os 6],.cells [.v (.bool false)],.cells [.v (.int .i64 (dW a0 a1))],.mp .int2 .int (cy (aq (bE a0 a1) a1.length 0 ([]))) none,.cells [.os 4],.row .order a1]/\a0.hours<9223372036854775808/\okL (aH a0) (i4 a0) (cK a0) (a1,(cy (aq (bE a0 a1) a1.length 0 ([]))))) (dR (aH a0) (cK a0) (a1,(cy (aq (bE a0 a1) a1.length 0 ([]))))) (fun _=>.ret) (fun x_1_0=>⟨[(2,.ptr 0 0),(4,.ptr 1 0),(5,.ptr 2 0),(6,.ptr 3 0),(7,.ptr 5 0)],[.cells (cellsOf .district a0),.cells [.v (.slice none 0 0)],.cells [.v (.bool false)],.cells [.v (.int .i64 0)],.mp .int2 .int x_1_0 none,.cells [.os 4],.dead,.dead]⟩) (fun s_1=>⟨[(2,.ptr 0 0),(4,.ptr 1 0),(5,.ptr 2 0),(6,.ptr 3 0),(7,.ptr 5 0)],[.cells (cellsOf .district a0),.cells [.os 7],.cells [.v (.bool false)],.cells [.v (.int .i64 (dW a0 a1))],.mp .int2 .int s_1.2 none,.cells [.os 4],.dead,.row .order s_1.1]⟩))else none),?_,?_⟩
 ·unfold aa Tryz.f137;simp only[ap,true_and,and_true];refine⟨?_,?_⟩;refine a8 mixed am hG kr (fun _=>rfl) (a1.length:Int) rfl iB (fun hb0 k_0 s_0 hlt0 hq0 hw hc=>⟨L0,ag _,?_⟩) (fun hb0 s_0 hc=>?_);unfold kD at hq0;try simp only[hw,air]at hq0
  exact bT (jl [0,1,2,3,4,5]);exact bN (jl [0,1,2,3,4,5])
  ·refine ud mixed am hG (by decide) (by decide) kr kr fun st lc hC hp=>?_;simp only[go_sem,Nat.reduceBEq,aip]at hC;subst hC;obtain⟨t,h⟩:=st;dsimp only[LC]at hp;obtain⟨e1_0,e1_1,e1_2,e1_3,e1_4,e1_5,rfl,hb1,hok1⟩:=hp;refine⟨214,[.ep (cellsOf .district a0) 0],Int×Int,_,_,(cK a0),GA,(aH a0),(i4 a0),_,(a1,(cy (aq (bE a0 a1) a1.length 0 ([])))),_,_,_,[(2,.ptr 0 0),(4,.ptr 1 0),(5,.ptr 2 0),(6,.ptr 3 0),(7,.ptr 5 0)],(fun s_1=>[.cells (cellsOf .district a0),.cells [.os 7],.cells [.v (.bool false)],.cells [.v (.int .i64 (dW a0 a1))],.mp .int2 .int s_1.2 none,.cells [.os 4],.dead,.row .order s_1.1]),(fun x_1_0=>[.cells (cellsOf .district a0),.cells [.v (.slice none 0 0)],.cells [.v (.bool false)],.cells [.v (.int .i64 0)],.mp .int2 .int x_1_0 none,.cells [.os 4],.dead,.dead]),[0,1,2,3,4,5,6,6],?_,rfl,hok1,nbl rfl,?_,Rl a0 hb1,fun z_1 s_1 hq1=>⟨rfl,L0,fun l=>?_,fun l=>?_,?_⟩,fun s_1=>?_,fun y=>?_⟩;simp only[go_sem,e1_0,e1_1,e1_2,e1_3,e1_4,e1_5]
   ·simp only[go_sem,Nat.reduceBEq,Nat.reduceLeDiff,Nat.reduceLT,decide_true,Nat.reduceAdd,Nat.reduceSub,Nat.reduceMul,Int.reduceLE,Int.reduceLT,Int.reduceToNat,Int.reduceNeg,reduceCtorEq,wU,mQ,ai5,ajN,aiC,aiQ,ajy,e1_0,e1_1,e1_2,e1_3,e1_4,e1_5];all_goals (first|done|decide|(repeat' (first|refine And.intro ?_ ?_|rfl|decide)))
   simp only[ap,and_self,true_and,and_true];simp only[ap,and_self,true_and,and_true];unfold i4 at hq1;exact afy (jl [0,1,2,3,4,5,6,7]) (jl [0,1,2,3,4,5,6,10]);exact YS (jl [0,1,2,3,4,5,6,7]) (jl [0,1,2,3,4,5,6,10]);exact YS (jl [0,1,2,3,4,5,6,7]) (jl [0,1,2,3,4,5,6,10])
 unfold aa Tryz.f137;try unfold bj
 exact afz
def qx (d:District)(reach hour:Int)(x:Order):Bool:=(x.hour==hour)&&((x.outlet&&(d.farms.getD x.index.toNat default).reach==reach) ||(!x.outlet&&(d.reaches.getD x.index.toNat default).up==reach))
abbrev rch (d:District)(r:Int):Reach:=d.reaches.getD r.toNat default
def drw (d:District)(l:List Order)(r h:Int):Int:=d4 (qx d r h) l
theorem L7 {ρ σ τ:Type}{step:τ->σ->ρ⊕σ}(J:List τ->σ->Prop)(hJ:∀ x L s,J (x::L) s->∀ s',step x s=.inr s'->J L s'):∀ (L:List τ) (s:σ),J L s->(∀ s',dR step L s=.inr s'->J [] s')/\∀ y,dR step L s=.inl y->∃ x L' s',J (x::L') s'/\step x s'=.inl y
 | [],s,h=>⟨fun s' e=>by grind [dR],fun y e=>by simp[dR]at e⟩
 |x::L,s,h=>by
  cases hs:step x s with
  |inl y=>
   grind [dR]
  |inr s1=>
   obtain⟨h1,h2⟩:=L7 J hJ L s1 (hJ x L s h s1 hs);grind [dR]
theorem PD {ρ σ τ:Type}{step:τ->σ->ρ⊕σ}{p:τ->σ->Prop}(J:List τ->σ->Prop)(hJ:∀ x L s,J (x::L) s->p x s/\∀ s',step x s=.inr s'->J L s'):∀ (L:List τ) (s:σ),J L s->okL step p L s
 | [],_,_=>trivial
 |x::L,s,h=>⟨(hJ x L s h).1,fun s' e=>PD J hJ L s' ((hJ x L s h).2 s' e)⟩
def PR (r h:Nat)(a b:Int):Prop:=(r:Int) <a\/a=r/\b< (h:Int)
abbrev Mp:=List ((Int×Int)×Int)
structure PG (d:District)(l:List Order)(x:Order):Prop where
 out:x.outlet=false
 i0:0<=x.index
 i1:x.index< (d.reaches.length:Int)
 h0:0<=x.hour
 h1:x.hour+(rch d x.index).delay<d.hours
 w:1<=drw d l x.index (x.hour+(rch d x.index).delay)
 v:aQ (rch d x.index) (drw d l x.index (x.hour+(rch d x.index).delay))=(x.litres,true)
structure PI (d:District)(out gs:List Order)(m:Mp)(r h:Nat):Prop where
 draws:∀ a b,aZ .int2 .int m (a,b)=drw d (out++gs) a b
 gate:∀ x∈gs,PG d (out++gs) x/\PR r h x.index (x.hour+(rch d x.index).delay)
 all:∀ a b,0<=a->a< (d.reaches.length:Int)->0<=b->b<d.hours->PR r h a b->drw d (out++gs) a b≠0->∃ x∈gs,x.index=a/\x.hour+(rch d a).delay=b
 uniq:gs.Pairwise fun x y=>¬ (x.index=y.index/\x.hour=y.hour)
 len:gs.length<=(d.reaches.length - 1 - r)*d.hours.toNat+h
theorem PE (d:District)(a b:List Order)(r h:Int):drw d (a++b) r h=drw d a r h+drw d b r h:=va _ _ _
theorem PH (d:District)(x:Order)(r h:Int):drw d [x] r h=bif qx d r h x then x.litres else 0:=by unfold drw;simp[d4]
theorem zv {d:District}(hr:Right1 d){l:List Order}{x:Order}(h:PG d l x):1<=x.litres/\x.litres<=1073741824/\(rch d x.index).siphon<=x.litres/\drw d l x.index (x.hour+(rch d x.index).delay)<=wst (rch d x.index) x.litres/\∀ u,0<=u->u<=1073741824->(rch d x.index).siphon<=u->drw d l x.index (x.hour+(rch d x.index).delay)<=wst (rch d x.index) u->x.litres<=u:=by
 have hk:x.index.toNat<d.reaches.length:=by have:=h.i0;have:=h.i1;omega
 rcases Dd (i:=(x.index.toNat:Int)) (by omega) (hr.reach _ hk) h.w with⟨v,e,e1,e2,e3,e4,e5⟩ | ⟨e,_⟩;have:=h.v;grind
 rw[h.v]at e;cases e
theorem PI.lit {d:District}{out gs:List Order}{m:Mp}{r h:Nat}(hr:Right1 d)(ho:Orders1 d out)(p:PI d out gs m r h):∀ x∈out++gs,1<=x.litres/\x.litres<=1073741824:=fun x hx=>by
 rcases aix.1 hx with hx|hx;exact ho.lit x hx;have:=zv hr (p.gate x hx).1;omega
theorem De {d:District}{l:List Order}(h:∀ x∈l,1<=x.litres/\x.litres<=1073741824)(a b:Int):0<=drw d l a b/\drw d l a b<=l.length*1073741824:=Gx h
theorem PI.len2 {d:District}{out gs:List Order}{m:Mp}{r h:Nat}(hr:Right1 d)(ho:Orders1 d out)(p:PI d out gs m r h)(hh:h<=d.hours.toNat):(out++gs).length<=266240+4096:=by
 have h1:=p.len;have h2:(d.reaches.length - 1 - r)*d.hours.toNat<=64*4096:=Nat.mul_le_mul (by have:=hr.reaches;omega) (by have:=hr.hours;omega);have:=ho.len;have:=hr.hours;grind
theorem PI.row {d:District}{out gs:List Order}{m:Mp}{r:Nat}(p:PI d out gs m (r+1) d.hours.toNat)(hr1:r+1<d.reaches.length)(hh:1<=d.hours):PI d out gs m r 0:=by
 refine⟨p.draws,fun x hx=>⟨(p.gate x hx).1,?_⟩,fun a b a0 a1 b0 b1 hp=>p.all a b a0 a1 b0 b1 ?_,p.uniq,?_⟩;have:=(p.gate x hx).2;grind [PR]
 grind [PR]
 have:=p.len;rw[show d.reaches.length - 1 - r=(d.reaches.length - 1 - (r+1))+1 by omega,akD];omega
theorem PI.skip {d:District}{out gs:List Order}{m:Mp}{r h:Nat}(p:PI d out gs m r h)(h0:drw d (out++gs) r h=0):PI d out gs m r (h+1):=by
 refine⟨p.draws,fun x hx=>⟨(p.gate x hx).1,?_⟩,fun a b a0 a1 b0 b1 hp hne=>?_,p.uniq,?_⟩;have:=(p.gate x hx).2;grind [PR]
 by_cases hq:PR r h a b
 exact p.all a b a0 a1 b0 b1 hq hne;grind [PR]
 have:=p.len;omega
theorem UP {d:District}(hr:Right1 d){r:Nat}(h:r<d.reaches.length):(rch d r).up<r:=(hr.reach1 h).up
theorem Df {d:District}(hr:Right1 d){r:Nat}(h:r<d.reaches.length):1<=(rch d r).delay/\(rch d r).delay<=16:=⟨(hr.reach1 h).delay1,(hr.reach1 h).delay⟩
theorem PI.add {d:District}{out gs:List Order}{m:Mp}{r h:Nat}(hr:Right1 d)(ho:Orders1 d out)(p:PI d out gs m r h)(hrl:r<d.reaches.length)(hhl:h<d.hours.toNat)(h1:1<=drw d (out++gs) r h){v:Int}(hv:aQ (rch d r) (drw d (out++gs) r h)=(v,true))(hd:(rch d r).delay<=h)(v0:1<=v)(v1:v<=1073741824):
  PI d out (gs++[{ hour:=(h:Int) - (rch d r).delay,index:=r,litres:=v,outlet:=false}]) (fN .int2 .int m ((rch d r).up,(h:Int) - (rch d r).delay) (i64.wrap (aZ .int2 .int m ((rch d r).up,(h:Int) - (rch d r).delay)+v))) r (h+1):=by
 generalize hx:({ hour:=(h:Int) - (rch d r).delay,index:=(r:Int),litres:=v,outlet:=false}:Order)=x;have xo:x.outlet=false:=by rw[<-hx]
 have xi:x.index=r:=by rw[<-hx]
 have xh:x.hour=(h:Int) - (rch d r).delay:=by rw[<-hx]
 have xl:x.litres=v:=by rw[<-hx]
 have hup:=UP hr hrl;have hdl:=Df hr hrl;have hone:∀ a b,drw d (out++(gs++[x])) a b=drw d (out++gs) a b+(if a=(rch d r).up/\b=(h:Int) - (rch d r).delay then v else 0):=fun a b=>by
  rw[<-ajF,PE,PH];congr 1
  unfold qx;grind
 have hsame:∀ a b,(r:Int)<=a->drw d (out++(gs++[x])) a b=drw d (out++gs) a b:=fun a b ha=>by
  grind
 have hb:=De (d:=d) (p.lit hr ho);have hlen:=p.len2 hr ho (by omega);refine⟨fun a b=>?_,fun y hy=>?_,fun a b a0 a1 b0 b1 hp hne=>?_,?_,?_⟩;rw[qo (k:=.int2),hone,p.draws,p.draws];have:=hb (rch d r).up ((h:Int) - (rch d r).delay);by_cases e:a=(rch d r).up/\b=(h:Int) - (rch d r).delay
 rw[if_pos e,if_pos (by rw[e.1,e.2]),e.1,e.2,cI (by omega) (by omega)];grind
 rcases aix.1 hy with hy|hy;obtain⟨g,gp⟩:=p.gate y hy;have hge:(r:Int)<=y.index:=by grind [PR]
 refine⟨⟨g.out,g.i0,g.i1,g.h0,g.h1,by rw[hsame _ _ hge];exact g.w,by rw[hsame _ _ hge];exact g.v⟩,?_⟩;grind [PR]
 rw[aiT]at hy;subst hy;have eh:y.hour+(rch d y.index).delay=h:=by grind
 refine⟨⟨xo,by omega,by omega,by omega,by omega,?_,?_⟩,?_⟩;grind
 grind
 grind [PR]
 have hge:(r:Int)<=a:=by grind [PR]
 rw[hsame _ _ hge]at hne;by_cases hq:PR r h a b
 obtain⟨y,hy,e⟩:=p.all a b a0 a1 b0 b1 hq hne;grind
 grind [PR]
 rw[ajq];refine⟨p.uniq,akh _ _,fun y hy z hz=>?_⟩;rw[aiT]at hz;subst hz;rintro⟨e1,e2⟩;have:=(p.gate y hy).2;grind [PR]
 have:=p.len;grind
theorem Dg {d:District}{out:List Order}(hr:Right1 d)(ho:Orders1 d out):
  (∀ m,aq (bE d out) out.length 0 []=.inr m->(∀ x∈out,x.outlet=true)/\∀ a b,aZ .int2 .int m (a,b)=drw d out a b)/\okI (bE d out) (kD d out) out.length 0 []/\((∀ x∈out,x.outlet=true)->∃ m,aq (bE d out) out.length 0 []=.inr m):=by
 let J:Nat->Mp->Prop:=fun k m=>k<=out.length->(∀ x∈out.take k,x.outlet=true)/\∀ a b,aZ .int2 .int m (a,b)=drw d (out.take k) a b
 have hJ0:J 0 []:=fun _=>⟨by simp,fun a b=>by rfl⟩;have hstep:∀ j s,0<=j->j<0+out.length->J j s->kD d out j s/\∀ s',bE d out j s=.inr s'->J (j+1) s':=fun j s _ hj hJ=>by
  have hj:j<out.length:=by omega
  obtain⟨h1,h2⟩:=hJ (by omega);have hx:=ho.one j hj;refine⟨fun he=>?_,fun s' hs _=>?_⟩;have:(out.getD j default).outlet=true:=by grind
  have:=hx.farm this;have:=hx.index0;omega;unfold bE at hs;cases hout:(out.getD j default).outlet with
  |false=>grind
  |true=>
   rw[hout]at hs;simp only[aiP,cond_false,aiZ]at hs;have hel:=nq out default hj;rw[ajm hj];refine⟨fun x hx=>?_,fun a b=>?_⟩;grind
   subst hs;rw[PE,PH,qo (k:=.int2),h2,h2,<-hel];have hb:=De (d:=d) (l:=out.take j) (fun x hx=>ho.lit x (akn hx)) (d.farms.getD (out.getD j default).index.toNat default).reach (out.getD j default).hour;have hl:(out.take j).length<=4096:=by have:=ho.len;grind
   have hl1:=hx.litres1;have hl2:=hx.litres;rw[cI (by omega) (by omega)];unfold qx;grind
 refine⟨fun m hm=>?_,BI J _ _ _ hJ0 hstep,fun hall=>?_⟩;have:=Le J _ _ _ hJ0 (fun j s h1 h2 h3=>(hstep j s h1 h2 h3).2) m hm (by omega);grind
 cases hrun:aq (bE d out) out.length 0 []with
 |inr m=>grind
 |inl y=>
  exfalso;have key:∀ n i s,i+n<=out.length->∀ y,aq (bE d out) n i s≠ .inl y:=by
   intro n;induction n with
   |zero=>grind [aq]
   |succ n ih=>
    intro i s hi y h;simp only[aq]at h;have hout:(out.getD i default).outlet=true:=hall _ (Dc _ _ (by omega));unfold bE at h;rw[hout]at h;simp only[aiP,cond_false]at h;exact ih (i+1) _ (by omega) y h
  grind
def PJ (d:District)(out:List Order)(L:List (Int×Int))(s:List Order×Mp):Prop:= ∃ gs r h,r<d.reaches.length/\h<=d.hours.toNat/\s.1=out++gs/\L=D7 r d.hours.toNat h++z8 d.hours.toNat r/\PI d out gs s.2 r h
theorem J0 {d:District}{out:List Order}(hr:Right1 d){x:Int×Int}{L:List (Int×Int)}{s:List Order×Mp}(h:PJ d out (x::L) s):∃ (gs:List Order) (r h:Nat),r<d.reaches.length/\h<d.hours.toNat/\s.1=out++gs/\x=((r:Int),(h:Int))/\L=D7 r d.hours.toNat (h+1)++z8 d.hours.toNat r/\PI d out gs s.2 r h:=by
 obtain⟨gs,r,h,h1,h2,h3,h4,h5⟩:=h;have hH:=hr.hours1;by_cases hh:h<d.hours.toNat
 grind [uj]
 have:h=d.hours.toNat:=by omega
 subst this;rw[Cm,aiC]at h4;cases r with
 |zero=>simp[z8]at h4
 |succ r=>
  rw[zt,uj (by omega),aiF]at h4;cases h4;exact⟨gs,r,0,by omega,by omega,h3,rfl,rfl,h5.row h1 hH⟩
theorem Iz {d:District}{out:List Order}(hr:Right1 d)(ho:Orders1 d out){gs:List Order}{r h:Nat}(hrl:r<d.reaches.length)(hhl:h<d.hours.toNat){s:List Order×Mp}(hs:s.1=out++gs)(p:PI d out gs s.2 r h):
  (drw d (out++gs) r h=0/\aH d ((r:Int),(h:Int)) s=.inr s)\/
  (1<=drw d (out++gs) r h/\((aQ (rch d r) (drw d (out++gs) r h)).2=false\/(h:Int) < (rch d r).delay)/\aH d ((r:Int),(h:Int)) s=.inl s.2)\/
  ∃ v,1<=drw d (out++gs) r h/\aQ (rch d r) (drw d (out++gs) r h)=(v,true)/\(rch d r).delay<=h/\1<=v/\v<=1073741824/\
   aH d ((r:Int),(h:Int)) s=.inr (out++(gs++[{ hour:=(h:Int) - (rch d r).delay,index:=r,litres:=v,outlet:=false}]),fN .int2 .int s.2 ((rch d r).up,(h:Int) - (rch d r).delay) (i64.wrap (aZ .int2 .int s.2 ((rch d r).up,(h:Int) - (rch d r).delay)+v))):=by
 have hb:=(De (d:=d) (p.lit hr ho) r h).1;have hm:=p.draws r h;have hdl:=Df hr hrl;have hH:=hr.hours;by_cases h0:drw d (out++gs) r h=0
 grind [aH]
 have h1:1<=drw d (out++gs) r h:=by omega
 have hne:(aZ .int2 .int s.2 ((r:Int),(h:Int)) ==0)=false:=by grind
 have hw:i64.wrap ((h:Int) - (rch d r).delay)=(h:Int) - (rch d r).delay:=cI (by omega) (by omega);by_cases hd:(h:Int) < (rch d r).delay
 refine .inr (.inl ⟨h1,.inr hd,?_⟩);unfold aH;grind
 rcases Dd (i:=(r:Int)) (by omega) (hr.reach r hrl) h1 with⟨v,e,e1,e2,e3,e4,e5⟩ | ⟨e,_⟩;refine .inr (.inr ⟨v,h1,e,by omega,e1,e2,?_⟩);have e':aQ (d.reaches.getD r default) (aZ .int2 .int s.2 ((r:Int),(h:Int)))=(v,true):=by grind
 unfold aH;grind
 refine .inr (.inl ⟨h1,.inl e,?_⟩);have e':(aQ (d.reaches.getD r default) (aZ .int2 .int s.2 ((r:Int),(h:Int)))).2=false:=by grind
 unfold aH;grind
theorem PK {d:District}{out:List Order}(hr:Right1 d)(ho:Orders1 d out)(x:Int×Int)(L:List (Int×Int))(s:List Order×Mp)(hpj:PJ d out (x::L) s):∀ s',aH d x s=.inr s'->PJ d out L s':=by
 obtain⟨gs,r,h,h1,h2,h3,rfl,h5,h6⟩:=J0 hr hpj;intro s' hs;rcases Iz hr ho h1 h2 h3 h6 with⟨q0,q1⟩ | ⟨q0,q1,q2⟩ | ⟨v,q0,q1,q2,q3,q4,q5⟩;rw[q1]at hs;cases hs;exact⟨gs,r,h+1,h1,h2,h3,h5,h6.skip q0⟩;grind
 rw[q5]at hs;cases hs;exact⟨_,r,h+1,h1,h2,rfl,h5,h6.add hr ho h1 h2 q0 q1 q2 q3 q4⟩
theorem L8 {d:District}{out:List Order}(hr:Right1 d){m:Mp}(hm:∀ a b,aZ .int2 .int m (a,b)=drw d out a b):PJ d out (cK d) (out,m):=by
 have h1:=hr.one;refine⟨[],d.reaches.length - 1,0,by omega,aiX _,by simp,?_,⟨by grind,by simp,fun a b a0 a1 b0 b1 hp=>?_,List.Pairwise.nil,by simp⟩⟩;unfold cK;rw[<-zt,show d.reaches.length - 1+1=d.reaches.length by omega];grind [PR]
structure PFin (d:District)(out gs:List Order):Prop where
 gate:∀ x∈gs,PG d (out++gs) x
 all:∀ a b,0<=a->a< (d.reaches.length:Int)->0<=b->b<d.hours->drw d (out++gs) a b≠0->∃ x∈gs,x.index=a/\x.hour+(rch d a).delay=b
 uniq:gs.Pairwise fun x y=>¬ (x.index=y.index/\x.hour=y.hour)
 len:gs.length<=d.reaches.length*d.hours.toNat
theorem aaV {d:District}{out:List Order}(hr:Right1 d){s:List Order×Mp}(h:PJ d out [] s):∃ gs,s.1=out++gs/\PFin d out gs:=by
 obtain⟨gs,r,h,h1,h2,h3,h4,h5⟩:=h;have hH:=hr.hours1;have hh:h=d.hours.toNat:=by
  grind [uj]
 subst hh;rw[Cm,aiC]at h4;have r0:r=0:=by
  cases r with
  |zero=>rfl|succ r=>grind [zt,uj]
 subst r0;refine⟨gs,h3,⟨fun x hx=>(h5.gate x hx).1,fun a b a0 a1 b0 b1 hne=>h5.all a b a0 a1 b0 b1 ?_ hne,h5.uniq,?_⟩⟩;unfold PR;omega;have:=h5.len;have e:d.reaches.length=(d.reaches.length - 1 - 0)+1:=by omega
 grind [Nat.succ_mul]
structure PX (d:District)(out gs:List Order)(r h:Nat):Prop where
 part:∃ m,PI d out gs m r h
 r1:r<d.reaches.length
 h1:h<d.hours.toNat
 w:1<=drw d (out++gs) r h
 no:(aQ (rch d r) (drw d (out++gs) r h)).2=false\/(h:Int) < (rch d r).delay
theorem GB {d:District}{out:List Order}(hr:Right1 d)(ho:Orders1 d out){m:Mp}(hm:∀ a b,aZ .int2 .int m (a,b)=drw d out a b):
  ((∃ s,dR (aH d) (cK d) (out,m)=.inr s/\∃ gs,s.1=out++gs/\PFin d out gs)\/∃ y,dR (aH d) (cK d) (out,m)=.inl y/\∃ gs r h,PX d out gs r h)/\
  okL (aH d) (i4 d) (cK d) (out,m):=by
 obtain⟨h1,h2⟩:=L7 (PJ d out) (fun x L s h=>PK hr ho x L s h) (cK d) (out,m) (L8 hr hm);refine⟨?_,PD (PJ d out) (fun x L s h=>⟨?_,PK hr ho x L s h⟩) _ _ (L8 hr hm)⟩;cases hrun:dR (aH d) (cK d) (out,m)with
 |inr s=>exact .inl ⟨s,rfl,aaV hr (h1 s hrun)⟩
 |inl y=>
  refine .inr ⟨y,rfl,?_⟩;obtain⟨x,L,s,g1,g2⟩:=h2 y hrun;obtain⟨gs,r,h,q1,q2,q3,rfl,q5,q6⟩:=J0 hr g1;rcases Iz hr ho q1 q2 q3 q6 with⟨_,e⟩ | ⟨e0,e1,_⟩ | ⟨v,_,_,_,_,_,e⟩;grind
  exact⟨gs,r,h,⟨_,q6⟩,q1,q2,e0,e1⟩;grind
 obtain⟨gs,r,h,q1,q2,q3,rfl,q5,q6⟩:=J0 hr h;unfold i4;simp only;refine fun _=>⟨⟨by omega,by omega⟩,UK _ _,fun _=>?_⟩;have:=q6.len2 hr ho (by omega);grind [di]
end Go.Sx
end
section
namespace Go.Sx
open Go.Lib Go.Proofs Go.Shelf Go.Sort
open IntKind (i64)
def K (x y:Order):Prop:=x.hour=y.hour/\x.index=y.index/\x.outlet=y.outlet
theorem K.symm {x y:Order}(h:K x y):K y x:=⟨h.1.symm,h.2.1.symm,h.2.2.symm⟩
theorem UQ {x y:Order}(h:Ck x=Ck y):x.outlet=y.outlet:=by
 grind [Ck]
theorem Ep {x y:Order}(h1:¬olt x y)(h2:¬olt y x):K x y:=by
 have e:x.hour=y.hour/\x.index=y.index/\Ck x=Ck y:=by grind [olt]
 exact⟨e.1,e.2.1,UQ e.2.2⟩
theorem aaW {x y:Order}(h:olt x y):¬K x y:=fun⟨h1,h2,h3⟩ =>by
 grind [Ck,olt]
theorem PM {l:List Order}(h:l.Pairwise fun x y=>¬K x y){x y:Order}(hx:x∈l)(hy:y∈l)(hk:K x y):x=y:=by
 obtain⟨i,hi,rfl⟩:=aiN hx;obtain⟨j,hj,rfl⟩:=aiN hy;rw[aiH]at h;rcases Nat.lt_trichotomy i j with q|q|q;grind
 subst q;rfl;exact absurd hk.symm (h j i hj hi q)
theorem UR {l:List Order}(h:l.Pairwise fun x y=>¬K x y):apart aA l:=fun x hx y hy h1 h2=>by
 refine PM h hx hy (Ep (fun q=>?_) fun q=>?_);unfold ltOf at h1;rw[decide_eq_false_iff_not]at h1;exact h1 ((L3 _ _).2 q);unfold ltOf at h2;rw[decide_eq_false_iff_not]at h2;exact h2 ((L3 _ _).2 q)
theorem tb (l:List Order):(srt aA l).Perm l:=ajI _ _
theorem sH {l m:List Order}(h:l.Perm m)(hm:m.Pairwise fun x y=>¬K x y):l.Pairwise fun x y=>¬K x y:=
 (h.pairwise_iff (fun {x y} (h:¬K x y) (k:K y x) =>h k.symm)).2 hm
theorem US {l:List Order}(h:l.Pairwise fun x y=>¬K x y):(srt aA l).Pairwise olt:=by
 have h1:(srt aA l).Pairwise fun x y=>(!(ltOf aA y x))=true:=by
  refine ajM (fun a b c h1 h2=>?_) (fun a b=>?_) l;simp only[aiE]at h1 h2 |-;exact JX.ntrans _ _ _ h2 h1;cases q:ltOf aA b a with
  |false=>rfl
  |true=>
   cases q2:ltOf aA a b with
   |false=>rfl|true=>have:=JX.trans _ _ _ q q2;rw[JX.irrefl]at this;cases this
 have h2:=sH (tb l) h;refine(h1.and h2).imp fun {x y} ⟨q1,q2⟩ =>?_;have q3:¬olt y x:=fun q=>by
  have:ltOf aA y x=true:=by unfold ltOf;rw[decide_eq_true_eq];exact(L3 _ _).2 q
  grind
 exact aiO fun q4=>q2 (Ep q4 q3)
structure Good (d:District)(l:List Order):Prop where
 chk:aU d=0
 len:l.length<=4096
 one:∀ x∈l,Order1 d x
 asc:l.Pairwise olt
theorem Good.right {d:District}{l:List Order}(h:Good d l):Right1 d:=y8 (by rw[h.chk];rfl)
theorem XK {d:District}{l:List Order}(h:eQ d l=0):Good d l:=by
 have ho:=Gw (d:=d) (l:=l) (by rw[h];rfl);refine⟨((AA d l).1 h).1,ho.len,fun x hx=>?_,aiH.2 fun i j hi hj hij=>?_⟩;obtain⟨i,hi,rfl⟩:=aiN hx;have:=ho.one i hi;grind
 have:=ho.lt j i hij hj;grind
theorem Good.orders {d:District}{l:List Order}(h:Good d l):Orders1 d l:=by
 refine⟨h.right,h.len,fun k hk=>?_,fun k hk=>?_⟩;rw[nq _ _ hk];exact h.one _ (ai_ _);rw[nq _ _ hk,nq _ _ (by omega:k<l.length)];exact(L3 _ _).2 (aiH.1 h.asc _ _ _ _ (by omega))
theorem Good.keys {d:District}{l:List Order}(h:Good d l):l.Pairwise fun x y=>¬K x y:=h.asc.imp fun {_ _} q=>aaW q
theorem UT {d:District}{l:List Order}(h:Good d l):eQ d l=0:=by
 refine(AA d l).2 ⟨h.chk,h.len,fun k hk=>?_⟩;have hx:=h.one _ (Dc l default hk);have hasc:(decide ((k:Int) > 0)&&decide (aA (l.getD (i64.wrap ((k:Int) - 1)).toNat default) (l.getD k default)>=0))=false:=by
  rw[ajU,decide_eq_false_iff_not,decide_eq_false_iff_not];by_cases hk0:0<k
  right;have hl:=h.len;rw[uf (by omega) hk0,air];have:=h.orders.asc (k - 1) (by omega);grind
  omega
 unfold jD;rw[hasc];generalize l.getD k default=x at hx;cases ho:x.outlet with
 |true=>
  have:=hx.farm ho;simp only[cond_true];have e:(decide (x.hour<0) ||decide (x.hour>=d.hours) ||decide (x.index<0) ||decide (x.index>=(d.farms.length:Int)) ||decide (x.litres<1) ||decide (x.litres > 1073741824) ||false)=false:=by
   have:=hx.hour0;have:=hx.hour;have:=hx.index0;have:=hx.litres1;have:=hx.litres;grind
  rw[e];rfl
 |false=>
  have:=hx.reach ho;simp only[cond_false];have e:(decide (x.hour<0) ||decide (x.hour>=d.hours) ||decide (x.index<0) ||decide (x.index>=(d.reaches.length:Int)) ||decide (x.litres<1) ||decide (x.litres > 1073741824) ||false)=false:=by
   have:=hx.hour0;have:=hx.hour;have:=hx.index0;have:=hx.litres1;have:=hx.litres;grind
  rw[e];rfl
structure Nar (d:District)(l:List Order):Prop where
 good:Good d l
 wide:(d.reaches.length:Int)*d.hours<=1024
theorem IA {d:District}(hr:Right1 d):0<=(d.reaches.length:Int)*d.hours/\(d.reaches.length:Int)*d.hours<=262144:=by
 have:=hr.reaches;have:=hr.hours;have:=hr.hours1;have h1:=Int.mul_le_mul (by omega:(d.reaches.length:Int)<=64) hr.hours (by omega) (by omega);have h2:=ajp (by omega:0<=(d.reaches.length:Int)) (by omega:0<=d.hours);omega
theorem A_ (d:District)(l:List Order):dW d l=0↔Nar d l:=by
 unfold dW;by_cases h:eQ d l=0
 have hg:=XK h;have hm:=IA hg.right;rw[cI (by omega) (by omega),h];by_cases hw:(d.reaches.length:Int)*d.hours > 1024
 rw[decide_eq_true hw];simp only[beq_self_eq_true,Bool.and_self,cond_true];exact⟨fun e=>(by cases e),fun e=>(by have:=e.wide;omega)⟩;rw[decide_eq_false hw];simp only[Bool.and_false,cond_false];exact⟨fun _=>⟨hg,by omega⟩,fun _=>trivial⟩;have:(eQ d l==0)=false:=by grind
 rw[this];simp only[akU,cond_false];exact⟨fun e=>absurd e h,fun e=>absurd (UT e.good) h⟩
structure PL (d:District)(out gs:List Order):Prop where
 good:Good d (srt aA (out++gs))
 fin:PFin d out gs
theorem zw {d:District}{out gs:List Order}(ho:Good d out)(hall:∀ x∈out,x.outlet=true)(h:PFin d out gs):(out++gs).Pairwise fun x y=>¬K x y:=by
 rw[ajq];refine⟨ho.keys,h.uniq.imp fun {x y} q k=>q ⟨k.2.1,k.1⟩,fun x hx y hy k=>?_⟩;have:=k.2.2;rw[hall x hx,(h.gate y hy).out]at this;cases this
theorem XL {d:District}{out gs:List Order}(ho:Good d out)(h:PFin d out gs):∀ x∈out++gs,Order1 d x:=fun x hx=>by
 rcases aix.1 hx with hx|hx;exact ho.one x hx;have g:=h.gate x hx;have gl:=zv ho.right g;have hd:=Df ho.right (r:=x.index.toNat) (by have:=g.i0;have:=g.i1;omega);rw[show((x.index.toNat:Nat):Int)=x.index from akX g.i0]at hd;have:=g.h1;exact⟨g.h0,by omega,g.i0,fun e=>(by rw[g.out]at e;cases e),fun _=>g.i1,gl.1,gl.2.1⟩
theorem GC (d:District)(out:List Order):
  (dW d out≠0/\bj d out=([],false,dW d out))\/
  (Nar d out/\¬ (∀ x∈out,x.outlet=true)/\bj d out=([],false,220))\/
  (Nar d out/\(∀ x∈out,x.outlet=true)/\(∃ gs r h,PX d out gs r h)/\bj d out=([],false,0))\/
  (Nar d out/\(∀ x∈out,x.outlet=true)/\∃ gs,PFin d out gs/\4096< (out++gs).length/\bj d out=([],false,2))\/
  (Nar d out/\(∀ x∈out,x.outlet=true)/\∃ gs,PL d out gs/\bj d out=(srt aA (out++gs),true,0)):=by
 unfold bj;by_cases hn:dW d out=0
 have hN:=(A_ d out).1 hn;have hr:=hN.good.right;have ho:=hN.good.orders;rw[hn];simp only[bne_self_eq_false,cond_false];obtain⟨f1,_,f3⟩:=Dg hr ho;by_cases hall:∀ x∈out,x.outlet=true
 obtain⟨m,hm⟩:=f3 hall;rw[hm];simp only;obtain⟨h1,_⟩:=GB hr ho (f1 m hm).2;rcases h1 with⟨s,hs,gs,e1,e2⟩ | ⟨y,hy,hx⟩;rw[hs];simp only[e1];by_cases hl:(out++gs).length<=4096
 rw[decide_eq_false (by omega)];refine .inr (.inr (.inr (.inr ⟨hN,hall,gs,⟨⟨hN.good.chk,?_,fun x hx=>XL hN.good e2 x ((tb _).mem_iff.1 hx),US (zw hN.good hall e2)⟩,e2⟩,rfl⟩)));rw[(tb _).length_eq];exact hl;grind
 grind
 grind
 grind
theorem UU (d:District)(l:List Order):oM d l:=NJ d l
theorem aaX (d:District)(out:List Order):rz d out:=by
 refine⟨UU _ _,fun hn=>?_⟩;have hN:=(A_ d out).1 (by grind);have hr:=hN.good.right;have ho:=hN.good.orders;obtain⟨f1,f2,f3⟩:=Dg hr ho;refine fun _=>⟨f2,fun m hm=>⟨?_,?_,?_⟩⟩;have:=ho.len;unfold di;omega;have:=hr.hours;omega;obtain⟨h1,h2⟩:=GB hr ho (f1 m hm).2;refine⟨h2,fun s hs _ _=>?_⟩;rcases h1 with⟨s',hs',gs,e1,e2⟩ | ⟨y,hy,_⟩;rw[hs']at hs;cases hs;rw[e1];exact UR (zw hN.good (f1 m hm).1 e2);grind
end Go.Sx
end
section
namespace Go.Sx
open Go.Proofs
variable {κ υ:Type}[DecidableEq κ]in
theorem L9:∀ (l:List (κ×υ)) (x:κ) (y:υ) (e:κ×υ),e∈tT l x y->e=(x,y)\/e∈l
 | [],x,y,e,h=>by grind [tT]
 |(a,b)::r,x,y,e,h=>by
  unfold tT at h;by_cases q:x=a
  grind
  rw[if_neg q]at h;rcases aiu.1 h with h|h;grind
  rcases L9 r x y e h with h|h <;>grind
variable {κ υ:Type}[DecidableEq κ]in
theorem IB:∀ (l:List (κ×υ)) (x:κ) (y:υ),jn l x=some y->(x,y)∈l
 |(a,b)::r,x,y,h=>by
  unfold jn at h;by_cases q:x=a
  grind
  rw[if_neg q]at h;exact aiz _ (IB r x y h)
variable {κ υ:Type}[DecidableEq κ]in
theorem NM {l:List (κ×υ)}(h:(l.map Prod.fst).Nodup)(x:κ)(y:υ):((tT l x y).map Prod.fst).Nodup:=by
 grind [A8]
structure SM (k:Tag)(f:k.T->Int)(m:List (k.T×Int)):Prop where
 get:∀ p,aZ k .int m p=f p
 nd:(m.map Prod.fst).Nodup
 pos:∀ e∈m,1<=e.2
theorem SM.nil {k:Tag}:SM k (fun _=>0) []:=⟨fun _=>rfl,ajC,fun _ h=>by cases h⟩
theorem SM.put {k:Tag}{f:k.T->Int}{m:List (k.T×Int)}(h:SM k f m)(x:k.T){v:Int}(hv:1<=v){g:k.T->Int}(hg:∀ p,g p=if p=x then v else f p):SM k g (fN k .int m x v):=by
 refine⟨fun p=>?_,NM h.nd x v,fun e he=>?_⟩;rw[qo,h.get,hg];rcases L9 (υ:=Int) m x v e he with rfl|he;exact hv;exact h.pos e he
theorem SM.entry {k:Tag}{f:k.T->Int}{m:List (k.T×Int)}(h:SM k f m){e:k.T×Int}(he:e∈m):e.2=f e.1/\1<=f e.1:=by
 have h1:=L4 m e h.nd he;have h2:=h.get e.1;unfold aZ at h2;rw[h1]at h2;have h3:e.2=f e.1:=h2;exact⟨h3,h3▸h.pos e he⟩
theorem SM.mem {k:Tag}{f:k.T->Int}{m:List (k.T×Int)}(h:SM k f m){p:k.T}(hp:f p≠0):(p,f p)∈m:=by
 have h2:=h.get p;unfold aZ at h2;cases hm:jn m p with
 |none=>rw[hm]at h2;exact absurd h2.symm hp
 |some v=>
  rw[hm]at h2;have h3:v=f p:=h2;exact h3▸IB m p v hm
theorem SM.congr {k:Tag}{f g:k.T->Int}{m:List (k.T×Int)}(h:SM k f m)(e:∀ p,g p=f p):SM k g m:=⟨fun p=>by rw[h.get,e],h.nd,h.pos⟩
def gP (r h:Int)(x:Order):Bool:= !x.outlet&&x.index==r&&x.hour==h
def J1 (l:List Order)(r h:Int):Int:=d4 (gP r h) l
theorem UV {r h:Int}{x y:Order}(hx:gP r h x=true)(hy:gP r h y=true):K x y:=by
 unfold gP at hx hy;simp only[aim,aiE,beq_iff_eq]at hx hy;exact⟨by omega,by omega,by grind⟩
theorem v7 {p:Order->Bool}{l:List Order}(hk:l.Pairwise fun x y=>¬K x y)(hp:∀ x y,p x=true->p y=true->K x y){x:Order}(hx:x∈l)(h:p x=true):d4 p l=x.litres:=by
 obtain⟨i,hi,rfl⟩:=aiN hx;refine UD hi h fun j hj hne=>?_;grind [List.pairwise_iff_getElem]
theorem UW {l:List Order}(hk:l.Pairwise fun x y=>¬K x y){x:Order}(hx:x∈l)(ho:x.outlet=false):J1 l x.index x.hour=x.litres:=
 v7 hk (fun _ _ h1 h2=>UV h1 h2) hx (by grind [gP])
theorem J2 {p:Order->Bool}{l:List Order}(h:d4 p l≠0):∃ x∈l,p x=true:=
 aiO fun q=>h (sn fun x hx=>by
  grind)
theorem XM {l:List Order}(hk:l.Pairwise fun x y=>¬K x y){r h:Int}(hg:J1 l r h≠0):∃ x∈l,x.outlet=false/\x.index=r/\x.hour=h/\x.litres=J1 l r h:=by
 obtain⟨x,hx,hp⟩:=J2 hg;have:=v7 hk (fun _ _ h1 h2=>UV h1 h2) hx hp;unfold gP at hp;simp only[aim,aiE,beq_iff_eq]at hp;exact⟨x,hx,hp.1.1,hp.1.2,hp.2,this.symm⟩
def Kept (d:District)(l:List Order):Prop:= ∀ r h:Int,0<=r->1<=drw d l r h->∃ w,ua (rch d r) (J1 l r (h - (rch d r).delay))=(w,0)/\drw d l r h<=w
theorem PN {d:District}{l:List Order}(hg:Good d l){r h:Int}(hr:0<=r)(hd:drw d l r h≠0):r< (d.reaches.length:Int)/\0<=h/\h<d.hours:=by
 obtain⟨x,hx,hp⟩:=J2 hd;have h1:=hg.one x hx;unfold qx at hp;simp only[aim,aiV,aiE,beq_iff_eq]at hp;have a1:=h1.hour0;have a2:=h1.hour;have a3:=h1.index0;refine⟨?_,by omega,by omega⟩;rcases hp.2 with⟨q1,q2⟩ | ⟨q1,q2⟩;have:=h1.farm q1;have:=hg.right.farm x.index.toNat (by omega);omega;have:=h1.reach q1;have:=UP hg.right (r:=x.index.toNat) (by omega);grind
theorem uk {P:Order->Bool}{l m:List Order}(h:l.Perm m):d4 P l=d4 P m:=by
 induction h with
 |nil=>rfl|cons x _ ih=>grind [d4]|swap x y l=>grind [d4]|trans _ _ ih1 ih2=>rw[ih1,ih2]
theorem J3 {P:Order->Bool}{l:List Order}(h:∀ x∈l,0<=x.litres):0<=d4 P l:=by
 induction l with
 |nil=>exact ajc _
 |cons x r ih=>
  simp only[d4];grind
theorem zx {P:Order->Bool}(hP:∀ x y,K x y->P x=P y):∀ (A B:List Order),A.Pairwise (fun x y=>¬K x y)->(∀ x∈A,P x=true->∃ z∈B,K z x/\x.litres<=z.litres)->(∀ z∈B,0<=z.litres)->d4 P A<=d4 P B
 | [],B,_,_,hB=>J3 hB
 |x::A,B,hA,hd,hB=>by
  have hA':=(aiM.1 hA);simp only[d4];cases hx:P x with
  |false=>
   have:=zx hP A B hA'.2 (fun y hy hp=>hd y (aiz _ hy) hp) hB;grind
  |true=>
   obtain⟨z,hz,hk,hl⟩:=hd x ai6 hx;have hperm:=uk (P:=P) (akR hz);have hPz:P z=true:=by grind
   simp only[d4,hPz,cond_true]at hperm;have:=zx hP A (B.erase z) hA'.2 (fun y hy hp=>by
    obtain⟨w,hw,hkw,hlw⟩:=hd y (aiz _ hy) hp;refine⟨w,?_,hkw,hlw⟩;have hne:w≠z:=fun e=>by
     subst e;exact hA'.1 y hy ⟨hk.1.symm.trans hkw.1,hk.2.1.symm.trans hkw.2.1,hk.2.2.symm.trans hkw.2.2⟩
    grind) (fun w hw=>hB w (List.mem_of_mem_erase hw))
   grind
theorem IC (d:District)(r h:Int)(x y:Order)(hk:K x y):qx d r h x=qx d r h y:=by
 unfold qx;rw[hk.1,hk.2.1,hk.2.2]
structure Keeps (d:District)(l:List Order):Prop where
 good:Good d l
 sip:∀ x∈l,x.outlet=false->(rch d x.index).siphon<=x.litres
 kept:Kept d l
theorem ID {d:District}{l:List Order}(h:Keeps d l){r hh:Int}(r0:0<=r)(h1:1<=drw d l r hh):∃ z∈l,z.outlet=false/\z.index=r/\z.hour=hh - (rch d r).delay/\drw d l r hh<=wst (rch d r) z.litres/\1<=z.litres/\z.litres<=1073741824/\(rch d r).siphon<=z.litres/\r< (d.reaches.length:Int):=by
 obtain⟨w,e1,e2⟩:=h.kept r hh r0 h1;obtain⟨q1,_,_⟩:=PN h.good r0 (by omega:drw d l r hh≠0);have hx:cg (r.toNat:Int) (rch d r)=true:=h.good.right.reach r.toNat (by omega);by_cases hg:J1 l r (hh - (rch d r).delay)=0
 exfalso;rw[hg,xW hx (ajc 0) (by omega),UH hx]at e1;grind
 obtain⟨z,hz,z1,z2,z3,z4⟩:=XM h.good.keys hg;have hl:=h.good.orders.lit z hz;rw[<-z4,xW hx (by omega) hl.2]at e1;cases e1;have:=h.sip z hz z1;grind
theorem IE {d:District}{out gs l:List Order}(hr:Right1 d)(hk:(out++gs).Pairwise fun x y=>¬K x y)(hg:∀ x∈gs,PG d (out++gs) x)(hout:∀ x∈out,∃ z∈l,K z x/\x.litres<=z.litres)(hl:Keeps d l):
  ∀ (n:Nat) (x:Order),x∈gs->(d.reaches.length:Int) - x.index<=n->∃ z∈l,K z x/\x.litres<=z.litres:=by
 intro n;induction n with
 |zero=>intro x hx hn;have:=(hg x hx).i1;omega
 |succ n ih=>
  intro x hx hn;have g:=hg x hx;have hD:drw d (out++gs) x.index (x.hour+(rch d x.index).delay)<=drw d l x.index (x.hour+(rch d x.index).delay):=by
   refine zx (IC d _ _) _ _ hk (fun y hy hp=>?_) fun z hz=>by have:=hl.good.orders.lit z hz;omega
   rcases aix.1 hy with hy|hy;grind
   have gy:=hg y hy;refine ih y hy ?_;unfold qx at hp;rw[gy.out]at hp;simp only[akU,aiY,aj_,aj8,aim,beq_iff_eq]at hp;have i0:=gy.i0;have i1:=gy.i1;have:=UP hr (r:=y.index.toNat) (by omega);grind
  have h1:=g.w;obtain⟨z,hz,z1,z2,z3,z4,z5,z6,z7,_⟩:=ID hl g.i0 (by omega:1<=drw d l x.index (x.hour+(rch d x.index).delay));refine⟨z,hz,⟨by omega,z2,by rw[z1,g.out]⟩,?_⟩;exact(zv hr g).2.2.2.2 z.litres (by omega) z6 z7 (by omega)
theorem UX {d:District}{out gs:List Order}(ho:Good d out)(hall:∀ x∈out,x.outlet=true)(hg:∀ x∈gs,x.outlet=false)(hu:gs.Pairwise fun x y=>¬ (x.index=y.index/\x.hour=y.hour)):(out++gs).Pairwise fun x y=>¬K x y:=by
 rw[ajq];refine⟨ho.keys,hu.imp fun {x y} q k=>q ⟨k.2.1,k.1⟩,fun x hx y hy k=>?_⟩;have:=k.2.2;grind
theorem XN {d:District}{out gs l:List Order}{r h:Nat}(ho:Good d out)(hall:∀ x∈out,x.outlet=true)(hx:PX d out gs r h)(hout:∀ x∈out,∃ z∈l,K z x/\x.litres<=z.litres)(hl:Keeps d l):False:=by
 obtain⟨m,p⟩:=hx.part;have hr:=ho.right;have hk:=UX ho hall (fun x hx=>(p.gate x hx).1.out) p.uniq;have hdom:=IE hr hk (fun x hx=>(p.gate x hx).1) hout hl;have hD:drw d (out++gs) r h<=drw d l r h:=by
  refine zx (IC d _ _) _ _ hk (fun y hy hp=>?_) fun z hz=>by have:=hl.good.orders.lit z hz;omega
  rcases aix.1 hy with hy|hy;grind
  exact hdom d.reaches.length y hy (by have:=(p.gate y hy).1.i0;omega)
 have hw:=hx.w;obtain⟨z,hz,z1,z2,z3,z4,z5,z6,z7,_⟩:=ID hl (by omega:(0:Int)<=r) (by omega:1<=drw d l r h);rcases hx.no with q|q;rcases Dd (i:=(r:Int)) (by omega) (hr.reach r hx.r1) hw with⟨v,e,_⟩ | ⟨_,e⟩ <;>grind;have:=(hl.good.one z hz).hour0;omega
theorem NN {d:District}{out gs:List Order}(ho:Good d out)(hall:∀ x∈out,x.outlet=true)(h:PL d out gs):Keeps d (srt aA (out++gs)):=by
 have hr:=ho.right;have hperm:=tb (out++gs);have hk:=zw ho hall h.fin;refine⟨h.good,fun x hx hxo=>?_,fun r hh r0 h1=>?_⟩;rcases aix.1 (hperm.mem_iff.1 hx)with q|q;grind
 exact(zv hr (h.fin.gate x q)).2.2.1;have hd:drw d (srt aA (out++gs)) r hh=drw d (out++gs) r hh:=uk hperm;obtain⟨q1,q2,q3⟩:=PN h.good r0 (by omega:drw d (srt aA (out++gs)) r hh≠0);obtain⟨x,hx,e1,e2⟩:=h.fin.all r hh r0 q1 q2 q3 (by omega);have g:=h.fin.gate x hx;have gl:=zv hr g;rw[e1,e2]at gl;have hxr:cg (r.toNat:Int) (rch d r)=true:=hr.reach r.toNat (by omega);have hg:J1 (srt aA (out++gs)) r (hh - (rch d r).delay)=x.litres:=by
  have e:J1 (srt aA (out++gs)) x.index x.hour=x.litres:=UW h.good.keys (hperm.mem_iff.2 (ajd _ hx)) g.out;grind
 refine⟨wst (rch d r) x.litres,?_,by omega⟩;rw[hg];exact xW hxr (by omega) gl.2.1
theorem J4 {ρ σ:Type}{step:Nat->σ->ρ⊕σ}(J:Nat->σ->Prop):∀ (n i:Nat) (s:σ),J i s->(∀ j s,i<=j->j<i+n->J j s->∃ s',step j s=.inr s'/\J (j+1) s')->∃ s',aq step n i s=.inr s'/\J (i+n) s'
 |0,i,s,h,_=>⟨s,rfl,h⟩
 |n+1,i,s,h,hs=>by
  obtain⟨s1,e1,h1⟩:=hs i s (aio _) (by omega) h;obtain⟨s2,e2,h2⟩:=J4 J n (i+1) s1 h1 fun j s a b=>hs j s (by omega) (by omega);grind [aq]
theorem GD:∀ (A B:List Order),A.Pairwise (fun x y=>¬K x y)->(∀ x∈A,∃ z∈B,K z x)->A.length<=B.length
 | [],_,_,_=>aiX _
 |x::A,B,hA,hd=>by
  have hA':=aiM.1 hA;obtain⟨z,hz,hk⟩:=hd x ai6;have:=GD A (B.erase z) hA'.2 fun y hy=>by
   obtain⟨w,hw,hkw⟩:=hd y (aiz _ hy);refine⟨w,?_,hkw⟩;have hne:w≠z:=fun e=>by
    subst e;exact hA'.1 y hy ⟨hk.1.symm.trans hkw.1,hk.2.1.symm.trans hkw.2.1,hk.2.2.symm.trans hkw.2.2⟩
   grind
  grind
end Go.Sx
end
section
namespace Go.Sx
open IntKind (i64)
structure CertifyPlace where
 hour:Int
 index:Int
 outlet:Bool
deriving Inhabited,DecidableEq
open Go.Proofs
def Grid (g:List (List Int))(n m:Nat):Prop:=g.length=n/\∀ i,i<n->(g.getD i []).length=m
theorem Grid.app {g:List (List Int)}{n m:Nat}{r:List Int}(h:Grid g n m)(hr:r.length=m):Grid (g++[r]) (n+1) m:=by
 refine⟨by simp[h.1],fun i hi=>?_⟩;by_cases e:i<n
 have:=h.2 i e;grind
 have:i=g.length:=by have:=h.1;omega
 grind
theorem Grid.set {g:List (List Int)}{n m i:Nat}{r:List Int}(h:Grid g n m)(hr:i<n->r.length=m):Grid (g.set i r) n m:=by
 refine⟨by simp[h.1],fun j hj=>?_⟩;have h0:=h.2 j hj;grind
theorem Grid.row {g:List (List Int)}{n m i:Nat}(h:Grid g n m)(hi:i<n):(g.getD i []).length=m:=h.2 i hi
theorem Rm (d:District)(c:List Claim):li d c:=fun _ h1 _ _=>kU _ _ _ fun j s h2 h3=>by
 unfold aI at h1;unfold km;refine⟨fun h=>?_,fun h=>?_,fun _ h=>?_⟩;grind
 grind
 simp only[decide_eq_true_eq]at h;grind [uf]
theorem J5 (d:District)(c:List Claim):aK d c=0↔aU d=0/\c.length<=4096/\∀ k,k<c.length->fH d c k ()=.inr ():=by
 unfold aK;cases h1:(aU d !=0)with
 |true=>grind
 |false=>
  simp at h1;simp only[cond_false,h1,true_and];grind [nW]
def J6 (a b:Claim):Prop:=a.hour<b.hour\/a.hour=b.hour/\(a.rank<b.rank\/a.rank=b.rank/\(a.right<b.right\/a.right=b.right/\a.farm<b.farm))
theorem NO {a b c:Claim}(h1:J6 a b)(h2:J6 b c):J6 a c:=by
 grind [J6]
theorem aaY (a b c d:Int):gZ [a,b,c,d]=if a≠0 then a else if b≠0 then b else if c≠0 then c else d:=by
 unfold gZ;simp only[ais,aiI,ai2,Nat.reduceAdd,aq,tu,List.getD_cons_zero,List.getD_cons_succ];grind
theorem Ro (a b:Claim):jp a b<0↔J6 a b:=by
 grind [jp,J6,aaY,lT]
def okC (d:District)(a:Claim):Bool:=letI q0:=d.rights.getD a.right.toNat default;(((((((((decide (a.right>=0))&&(decide (a.right< (d.rights.length:Int))))&&(decide (a.farm>=0)))&&(decide (a.farm< (d.farms.length:Int))))&&(decide (a.hour>=0)))&&(decide (a.hour<d.hours)))&&(decide (a.litres>=1)))&&(decide (a.litres<=1073741824))))&&(q0.kind==1)&&(q0.rank==a.rank)
theorem DJ {d:District}{c:List Claim}{k:Nat}(hk:k<4096):fH d c k ()=.inr ()↔okC d (c.getD k default)=true/\(0<k->J6 (c.getD (k - 1) default) (c.getD k default)):=by
 have hw:k > 0->(i64.wrap ((k:Int) - 1)).toNat=k - 1:=fun h=>by grind [uf]
 have hb:∀ X:Bool,((bif X then Sum.inl ()else Sum.inr ()):Unit⊕Unit)=.inr ()↔X=false:=fun X=>by grind
 unfold fH okC;rw[hb];generalize hq:((((((((decide ((c.getD k default).right>=0))&&(decide ((c.getD k default).right< (d.rights.length:Int))))&&(decide ((c.getD k default).farm>=0)))&&(decide ((c.getD k default).farm< (d.farms.length:Int))))&&(decide ((c.getD k default).hour>=0)))&&(decide ((c.getD k default).hour<d.hours)))&&(decide ((c.getD k default).litres>=1)))&&(decide ((c.getD k default).litres<=1073741824)))=q;clear hq;by_cases h0:0<k
 rw[hw h0,<-Ro];grind
 simp_all
theorem Ba (d:District)(c:List Claim):aK d c=0↔aU d=0/\c.length<=4096/\(∀ a∈c,okC d a=true)/\c.Pairwise J6:=by
 rw[J5];refine and_congr_right fun _=>and_congr_right fun hl=>?_;constructor
 intro h;have hs:=fun k hk=>(DJ (by omega)).1 (h k hk);refine⟨fun a ha=>?_,?_⟩;obtain⟨k,hk,rfl⟩:=aiN ha;grind
 have key:∀ (k j:Nat),j<k->k<c.length->J6 (c.getD j default) (c.getD k default):=by
  intro k;induction k with
  |zero=>omega
  |succ k ih=>
   intro j h1 h2;have h3:=(hs (k+1) h2).2 (by omega);rw[ajQ]at h3;by_cases e:j=k
   grind
   exact NO (ih j (by omega) (by omega)) h3
 grind [List.pairwise_iff_getElem]
 rintro⟨h1,h2⟩ k hk;refine(DJ (by omega)).2 ⟨?_,fun h0=>?_⟩;grind
 rw[nq _ _ hk,nq _ _ (by omega:k - 1<c.length)];exact aiH.1 h2 _ _ _ _ (by omega)
def so (a:Claim):CertifyPlace:= { hour:=a.hour,index:=a.farm,outlet:=true}
def iu (p:CertifyPlace):List Claim->Int
 | [] =>0|a::r=>(if p=so a then a.litres else 0)+iu p r
theorem L_ (p:CertifyPlace)(a b:List Claim):iu p (a++b)=iu p a+iu p b:=by
 induction a with
 |nil=>simp[iu]|cons x r ih=>grind [iu]
theorem Hk (p:CertifyPlace)(c:List Claim)(h:∀ a∈c,1<=a.litres/\a.litres<=1073741824):0<=iu p c/\iu p c<=c.length*1073741824:=by
 induction c with
 |nil=>simp[iu]
 |cons x r ih=>
  have h1:=ih fun a ha=>h a (aiz _ ha);grind [iu]
theorem NP {d:District}{a:Claim}(h:okC d a=true):1<=a.litres/\a.litres<=1073741824:=by
 simp_all [okC]
def gu (reach a b:Int)(x:Order):Bool:=(!x.outlet&&x.index==reach)&&decide (x.hour>=a)&&decide (x.hour<=b)
def GF (farm hour:Int)(x:Order):Bool:=(x.outlet&&x.index==farm)&&x.hour==hour
def cell (g:List (List Int))(i j:Nat):Int:=(g.getD i []).getD j 0
theorem Rp {d:District}{l:List Order}(ho:Orders1 d l){j:Nat}(hj:j<l.length){p:Order->Bool}(hp:∀ x,p x=true->x.hour=l[j].hour/\x.index=l[j].index/\x.outlet=l[j].outlet):d4 p (l.take j)=0:=
 sn fun x hx=>by
  obtain⟨i,hi,rfl⟩:=aiN hx;rw[List.length_take]at hi;rw[List.getElem_take];cases h:p l[i]with
  |false=>rfl
  |true=>
   obtain⟨e1,e2,e3⟩:=hp _ h;have:=ho.uniq (by omega) hj e1 e2 e3;omega
theorem PO {d:District}{l:List Order}(ho:Orders1 d l)(p:Order->Bool)(j:Nat):0<=d4 p (l.take j)/\d4 p (l.take j)<=4398046511104:=by
 have hb:=Gx (p:=p) fun a ha=>ho.lit a (akn (i:=j) ha);have hl:=ho.len;grind
theorem UY {d:District}{l:List Order}(ho:Orders1 d l)(p:Order->Bool):0<=d4 p l/\d4 p l<=4398046511104:=by
 have:=PO ho p l.length;grind
structure Sure (d:District)(c:List Claim)(l:List Order):Prop where
 ho:Orders1 d l
 clen:c.length<=4096
 okc:∀ a∈c,okC d a=true
 cap:∀ r h:Nat,r<d.reaches.length->d4 (gu r h h) l<=(d.reaches.getD r default).cap
 bank:∀ r h:Nat,r<d.reaches.length->h<d.hours.toNat->d4 (gu r ((h:Int) - (d.reaches.getD r default).delay+1) h) l<=(d.reaches.getD r default).bank
 tank:∀ h:Nat,h<d.hours.toNat->d4 (gu (0:Nat) 0 h) l<=d.tank.start
 water:∀ r h:Nat,r<d.reaches.length->h<d.hours.toNat->d4 (qx d r h) l<=(ua (d.reaches.getD r default) (d4 (gu r ((h:Int) - (d.reaches.getD r default).delay) ((h:Int) - (d.reaches.getD r default).delay)) l)).1
 unmet:∀ h f:Nat,h<d.hours.toNat->f<d.farms.length->iu { hour:=(h:Int),index:=(f:Int),outlet:=true} c<=d4 (GF f h) l
theorem UZ {d:District}{l:List Order}(ho:Orders1 d l)(r:Int){a m b:Int}(h1:a<=m)(h2:m<=b+1):d4 (gu r a (m - 1)) l+d4 (gu r m b) l=d4 (gu r a b) l:=UC fun x _=>by
 unfold gu;grind
end Go.Sx
end
section
namespace Go.Sx
open Go.Proofs
open IntKind (i64)
@[go_sem] def cX (c:List Claim)(k_0:Nat)(s_0:List (TimetableSlot×Int)):Empty⊕(List (TimetableSlot×Int)):=letI q1:=c.getD k_0 default;letI q0:=({ index:=q1.farm,hour:=q1.hour}:TimetableSlot);.inr (fN .timetableSlot .int s_0 q0 (i64.wrap ((aZ .timetableSlot .int s_0 q0)+q1.litres)))
@[go_sem] def ew (s_0:List (TimetableSlot×Int))(k_1:TimetableSlot×Int)(s_1:List Order):Empty⊕(List Order):=.inr (s_1++([({ hour:=k_1.1.hour,index:=k_1.1.index,litres:=k_1.2,outlet:=true}:Order)]))
def ic (s_0:List (TimetableSlot×Int))(k_1:TimetableSlot×Int)(s_1:List Order):Prop:=((s_1++([({ hour:=k_1.1.hour,index:=k_1.1.index,litres:=k_1.2,outlet:=true}:Order)])).length*32<=di)
def an (c:List Claim):List Order:=(match aq (cX c) c.length 0 ([])with| .inl x=>x.elim| .inr s_0=>(match dR (ew s_0) s_0 ([])with| .inl x=>x.elim| .inr s_1=>(srt aB s_1)))
def kX (c:List Claim):Prop:=(c.length<=aI->(∀ s_0,aq (cX c) c.length 0 ([])=.inr s_0->(∀ L_1,L_1.Perm s_0->(okL (ew s_0) (ic s_0) L_1 ([])/\(∀ s_1,dR (ew s_0) L_1 ([])=.inr s_1->((apart aB s_1)/\((srt aB s_1)=(an c))))))))
@[go_sem] def tS:List SV->Option Con:=(pR .claim fun c=>(pE (.det (kX c) (.nw .order (an c)))))
theorem afA {l0 l1:List Nat}(a0:JL l0)(a1:JL l1){p:Prop}(h:JL l0->JL l1->p:=by intro ja jb;simp only[go_sem,Nat.reduceBEq,Nat.reduceLeDiff,Nat.reduceLT,decide_true,Nat.reduceAdd,Nat.reduceSub,Nat.reduceMul,Int.reduceLE,Int.reduceLT,Int.reduceToNat,Int.reduceNeg,reduceCtorEq,ai9];all_goals exact nV ja jb):p:=h a0 a1
theorem afB {p:Prop}(h:p:=by simp only[go_sem,Nat.reduceBEq,Nat.reduceLeDiff,Nat.reduceLT,decide_true,Nat.reduceAdd,Nat.reduceSub,Nat.reduceMul,Int.reduceLE,Int.reduceLT,Int.reduceToNat,Int.reduceNeg,reduceCtorEq];all_goals exact clP):p:=h
theorem zy:FnOk Tryz.prog 178 tS:=by
 have hG:ConsOk Tryz.prog (mkG [] [(185,qj)]):=av cg0 (cgc DI cg0);refine Jt true mixed am hG (fn:=Tryz.f178) (c:=aa Tryz.f178) kr kr kr kr (bB fun c=>(aj (fun hp=>?_)));dsimp only[aw]at hp;unfold kX at hp;refine⟨nbl rfl,(fun id st=>bif Nat.beq id 0 then some (LCR (ρ:=Empty) (σ:=(List (TimetableSlot×Int))) 1 [] [0] (fun k_0 s_0=>⟨[(2,.v (.slice none 0 0)),(3,.os 0),(9,.rs .claim c),(10,.v (.int .i64 (c.length:Int))),(11,.v (.int .i64 (k_0:Int)))],[.mp .timetableSlot .int s_0 none]⟩) (cX c) pT c.length ([]) (c.length<=aI) ((·.elim)) ((·.elim)) st)else bif Nat.beq id 2 then some (LCP (τ:=TimetableSlot×Int) (ρ:=Empty) (σ:=(List Order)) 2 [.slot 2 (.row .order ([]))] [0,1,2] (fun left_1 cur_1 s_1=>⟨[(2,.os 2),(29,.ptr 1 0)],[.mp .timetableSlot .int (cy (aq (cX c) c.length 0 ([]))) (some (1,none)),.mi (some 0) (cy (aq (cX c) c.length 0 ([]))).length left_1 cur_1,.row .order s_1]⟩) (ew (cy (aq (cX c) c.length 0 ([])))) (ic (cy (aq (cX c) c.length 0 ([])))) (cy (aq (cX c) c.length 0 ([]))) ([]) ((·.elim)) ((·.elim)) (fun s_1=>⟨[(2,.os 2)],[.dead,.dead,.row .order s_1]⟩) st)else none),?_,?_⟩
 ·unfold aa Tryz.f178;simp only[ap,true_and,and_true];refine⟨?_,?_⟩;refine a8 mixed am hG kr (fun _=>rfl) (c.length:Int) rfl iB (fun hb0 k_0 s_0 hlt0 _ hw hc=>⟨L0,ag _,?_⟩) (fun hb0 s_0 hc=>?_);exact bT (jl [0]);exact bN (jl [0])
  ·refine T6 (gz .timetableSlot,gz .int) 1 mixed am hG kr (fun _=>rfl) fun left_1 cur_1 s_1 hp1=>⟨L0,ag _,?_⟩
   ·by_cases hl1:left_1=[]
    subst hl1;exact afA (jl [0,1,5]) (jl [0,1,2])
    ·simp only[go_sem,Nat.reduceBEq,Nat.reduceLeDiff,Nat.reduceLT,decide_true,Nat.reduceAdd,Nat.reduceSub,Nat.reduceMul,Int.reduceLE,Int.reduceLT,Int.reduceToNat,Int.reduceNeg,reduceCtorEq,hl1];intro j hj1;obtain⟨hlt1,hq1⟩:=hp1 j hj1;unfold ic at hq1;all_goals exact nV (jl [0,1,5]) (jl [0,1,2])
 unfold aa Tryz.f178;exact afB
@[go_sem] def bF (s_:List Order)(k_0:Nat)(s_0:Unit):Int⊕Unit:=(bif(rv (s_.getD k_0 default))then .inl (k_0:Int)else .inr ())
def dT (s_:List Order):Int:=(match aq (bF s_) s_.length 0 ()with| .inl x_0_0=>x_0_0| .inr s_0=>(-1))
@[go_sem] def iU:List SV->Option Con:=(pR .order fun s_=>(pFn 180 (pE ((pE (.det True (.v (.int .i64 (dT s_)))))))))
theorem nJ:FnOk Tryz.prog 212 iU:=by
 have hG:ConsOk Tryz.prog (mkG [(180,tR)] []):=av (cgc zq cg0) cg0;refine ax [.o] mixed am hG (fn:=Tryz.f212) (c:=aa Tryz.f212) kr kr kr kr (bB fun s_=>(bI (aj ((aj (fun hp=>?_))))));dsimp only[aw]at hp;refine⟨nbl rfl,(fun id st=>bif Nat.beq id 0 then some (LCR (ρ:=Int) (σ:=Unit) 0 [] [] (fun k_0 s_0=>⟨[(0,.rs .order s_),(1,.fn 180 [] []),(7,.v (.int .i64 (s_.length:Int))),(8,.v (.int .i64 (k_0:Int)))],[]⟩) (bF s_) pT s_.length () (s_.length<=aI) (fun _=>.ret) (fun x_0_0=>⟨[(4,.v (.int .i64 x_0_0))],[]⟩) st)else none),?_,?_⟩;unfold aa Tryz.f212;simp only[ap,true_and,and_true];refine a8 mixed am hG kr (fun _=>rfl) (s_.length:Int) rfl iB (fun hb0 k_0 s_0 hlt0 _ hw hc=>⟨L0,ag _,?_⟩) (fun hb0 s_0 hc=>?_);exact bT (jl []);exact bN (jl []);unfold aa Tryz.f212;try unfold dT
 exact zq1
def bG (s_:List Order):Bool:=(decide ((dT s_)>=0))
@[go_sem] def im:List SV->Option Con:=(pR .order fun s_=>(pFn 180 (pE ((pE (.det True (.v (.bool (bG s_)))))))))
theorem mu:FnOk Tryz.prog 179 im:=by
 have hG:ConsOk Tryz.prog (mkG [(212,fun l=>iU (bD [.sl .order,.o] l))] []):=av (cgc (nJ.norm [.sl .order,.o]) cg0) cg0;refine ax [.o] mixed am hG (fn:=Tryz.f179) (c:=aa Tryz.f179) kr kr kr kr (bB fun s_=>(bI (aj ((aj (fun hp=>?_))))));dsimp only[aw]at hp;refine⟨nbl rfl,L0,ag _,?_⟩;unfold aa Tryz.f179;try unfold bG
 exact zq1
def aY (d:District)(c:List Claim):List Order×Int:=letI q0:=an c;(bif((aK d c) !=0)then([],(aK d c))else(bif(decide ((i64.wrap ((d.reaches.length:Int)*d.hours)) > 1024))then([],2)else(bif(bG q0)then([],270)else(q0,0))))
def nD (d:District)(c:List Claim):Prop:=((li d c)/\(((aK d c) !=0)=false->(d.reaches.length<=aI->((decide ((i64.wrap ((d.reaches.length:Int)*d.hours)) > 1024))=false->(kX c)))))
@[go_sem] def v8:List SV->Option Con:=(pD .district fun d=>(pR .claim fun c=>(pE (.det (nD d c) (.tup [.rs .order ((aY d c).1),.v (.int .i64 ((aY d c).2))])))))
theorem Bb:FnOk Tryz.prog 136 v8:=by
 have hG:ConsOk Tryz.prog (mkG [(32,fun l=>uH (bD [.st .district,.sl .claim] l)),(178,fun l=>tS (bD [.sl .claim] l)),(179,fun l=>im (bD [.sl .order,.o] l))] []):=av (cgc (yb.norm [.st .district,.sl .claim]) (cgc (zy.norm [.sl .claim]) (cgc (mu.norm [.sl .order,.o]) cg0))) cg0;refine ax [.sl .order,.o] mixed am hG (fn:=Tryz.f136) (c:=aa Tryz.f136) kr kr kr kr (a7 fun d=>(bB fun c=>(aj (fun hp=>?_))));dsimp only[aw]at hp;unfold nD at hp;refine⟨nbl rfl,L0,ag _,?_⟩;unfold aa Tryz.f136;try unfold aY
 exact zq1
end Go.Sx
end
section
namespace Go.Sx
open Go.Lib Go.Proofs Go.Shelf Go.Sort
def oP (f h:Int):CertifyPlace:= { hour:=h,index:=f,outlet:=true}
def wx (c:List Claim)(f h:Int):Int:=iu (oP f h) c
def okL1 (c:List Claim):Prop:=c.length<=4096/\∀ a∈c,1<=a.litres/\a.litres<=1073741824
theorem Rq {c:List Claim}{j:Nat}(hj:j<c.length)(f h:Int):wx (c.take (j+1)) f h=wx (c.take j) f h+(if oP f h=so c[j]then c[j].litres else 0):=by
 unfold wx;rw[ajm hj,L_];simp[iu]
theorem XO {c:List Claim}(h:okL1 c)(f t:Int):0<=wx c f t/\wx c f t<=4398046511104:=by
 have h1:=Hk (oP f t) c h.2;have h2:=h.1;grind [wx]
theorem okL1.take {c:List Claim}(h:okL1 c)(j:Nat):okL1 (c.take j):=⟨by rw[List.length_take];have:=h.1;omega,fun a ha=>h.2 a (akn ha)⟩
theorem U0 {k:Tag}(m:List (k.T×Int))(x:k.T)(y:Int):(fN k .int m x y).length<=m.length+1:=by
 have:=congrArg List.length (A8 m x y);rw[ajn]at this;show(tT m x y).length<=_;grind
theorem PS {c:List Claim}(h:okL1 c):∃ m,aq (cX c) c.length 0 []=.inr m/\SM .timetableSlot (fun p=>wx c p.index p.hour) m/\m.length<=c.length:=by
 obtain⟨m,e,hm,hn⟩:=J4 (step:=cX c) (fun j m=>SM .timetableSlot (fun p=>wx (c.take j) p.index p.hour) m/\m.length<=j) c.length 0 [] ⟨by simpa[wx,iu]using SM.nil,aio _⟩ (fun j m _ hj ⟨hm,hn⟩ =>by
  have hj:j<c.length:=by omega
  refine⟨_,rfl,?_,aiR (U0 _ _ _) (by omega)⟩;rw[nq _ _ hj];have h1:=XO (h.take j) c[j].farm c[j].hour;have h2:=h.2 _ (ai_ hj);have h3:=hm.get ({ index:=c[j].farm,hour:=c[j].hour}:TimetableSlot);simp only at h3;refine hm.put _ (v:=_) ?_ fun p=>?_;grind [cI]
  rw[h3,cI (by omega) (by omega),Rq hj];by_cases hp:p=({ index:=c[j].farm,hour:=c[j].hour}:TimetableSlot)
  subst hp;rw[if_pos rfl,if_pos (by rfl)];rw[if_neg hp,if_neg (fun q=>hp (by
   unfold oP so at q;simp only[CertifyPlace.mk.injEq]at q;obtain⟨a,b⟩:=p;grind))]
  omega)
 simp_all
def toO (e:TimetableSlot×Int):Order:= { hour:=e.1.hour,index:=e.1.index,litres:=e.2,outlet:=true}
theorem Cn (m:List (TimetableSlot×Int)):∀ (L:List (TimetableSlot×Int)) (s:List Order),dR (ew m) L s=.inr (s++L.map toO)
 | [],s=>by simp[dR]
 |x::L,s=>by
  have e:ew m x s=.inr (s++[toO x]):=rfl;simp only[dR,e];rw[Cn m L];simp
theorem IF (m:List (TimetableSlot×Int)):∀ (L:List (TimetableSlot×Int)) (s:List Order),s.length+L.length<=100000->okL (ew m) (ic m) L s
 | [],s,_=>trivial
 |x::L,s,h=>by
  have e:ew m x s=.inr (s++[toO x]):=rfl;rw[ais]at h;refine⟨?_,fun s' hs=>?_⟩;grind [ic,di]
  rw[e]at hs;simp only[aiZ]at hs;subst hs;exact IF m L _ (by simp;omega)
theorem GG {m:List (TimetableSlot×Int)}(h:(m.map Prod.fst).Nodup):(m.map toO).Pairwise fun x y=>¬K x y:=by
 rw[ajG];unfold List.Nodup at h;rw[ajG]at h;refine h.imp fun {a b} q k=>q ?_;obtain⟨⟨a1,a2⟩,a3⟩:=a;obtain⟨⟨b1,b2⟩,b3⟩:=b;have h1:a2=b2:=k.1;have h2:a1=b1:=k.2.1;rw[h1,h2]
theorem GH {x y:Order}(hx:x.outlet=true)(hy:y.outlet=true):Rk x y↔olt x y:=by
 grind [Rk,olt,Ck,JZ]
theorem ul (l:List Order):(srt aB l).Perm l:=ajI _ _
theorem J7 {l:List Order}(ho:∀ x∈l,x.outlet=true)(h:l.Pairwise fun x y=>¬K x y):(srt aB l).Pairwise olt:=by
 have h1:(srt aB l).Pairwise fun x y=>(!(ltOf aB y x))=true:=by
  refine ajM (fun a b c h1 h2=>?_) (fun a b=>?_) l;simp only[aiE]at h1 h2 |-;exact v6.ntrans _ _ _ h2 h1;cases q:ltOf aB b a with
  |false=>rfl
  |true=>
   cases q2:ltOf aB a b with
   |false=>rfl|true=>have:=v6.trans _ _ _ q q2;rw[v6.irrefl]at this;cases this
 have h2:=sH (ul l) h;have h3:∀ x∈srt aB l,x.outlet=true:=fun x hx=>ho x ((ul l).mem_iff.1 hx);rw[aiH]at h1 h2 |-;intro i j hi hj hij;have q1:=h1 i j hi hj hij;have q2:=h2 i j hi hj hij;have q3:¬olt (srt aB l)[j] (srt aB l)[i]:=fun q=>by
  have:ltOf aB (srt aB l)[j] (srt aB l)[i]=true:=by
   unfold ltOf;rw[decide_eq_true_eq];exact(xY _ _).2 ((GH (h3 _ (ai_ _)) (h3 _ (ai_ _))).2 q)
  grind
 exact aiO fun q4=>q2 (Ep q4 q3)
theorem XP {l m:List Order}(ho:∀ x∈l,x.outlet=true)(h:l.Pairwise fun x y=>¬K x y)(hp:m.Perm l):srt aB m=srt aB l:=by
 have hm:∀ x∈m,x.outlet=true:=fun x hx=>ho x (hp.mem_iff.1 hx);exact aj9 (fun a b _ _ h1 h2=>absurd h2 (fun h2=>by grind [olt])) (J7 hm (sH hp h)) (J7 ho h) ((ul m).trans (hp.trans (ul l).symm))
theorem aaZ {l:List Order}(ho:∀ x∈l,x.outlet=true)(h:l.Pairwise fun x y=>¬K x y):apart aB l:=fun x hx y hy h1 h2=>by
 refine PM h hx hy (Ep (fun q=>?_) fun q=>?_);unfold ltOf at h1;rw[decide_eq_false_iff_not]at h1;exact h1 ((xY _ _).2 ((GH (ho x hx) (ho y hy)).2 q));unfold ltOf at h2;rw[decide_eq_false_iff_not]at h2;exact h2 ((xY _ _).2 ((GH (ho y hy) (ho x hx)).2 q))
theorem J8 (m:List (TimetableSlot×Int)):∀ x∈m.map toO,x.outlet=true:=fun x hx=>by
 obtain⟨e,_,rfl⟩:=aki.1 hx;rfl
theorem GI {p:CertifyPlace}:∀ {c:List Claim},iu p c≠0->∃ a∈c,p=so a
 | [],h=>absurd rfl h
 |a::r,h=>by
  by_cases q:p=so a
  grind
  simp only[iu,if_neg q,Int.zero_add]at h;obtain⟨b,hb,e⟩:=GI h;grind
structure Outs (c:List Claim)(o:List Order):Prop where
 out:∀ x∈o,x.outlet=true
 asc:o.Pairwise olt
 lit:∀ x∈o,x.litres=wx c x.index x.hour/\1<=x.litres
 all:∀ f h,wx c f h≠0->∃ x∈o,x.index=f/\x.hour=h
 src:∀ x∈o,∃ a∈c,a.farm=x.index/\a.hour=x.hour
 len:o.length<=c.length
theorem outs {c:List Claim}(h:okL1 c):Outs c (an c):=by
 obtain⟨m,e,hm,hn⟩:=PS h;have e2:an c=srt aB (m.map toO):=by
  grind [an,Cn]
 rw[e2];have hmem:∀ x,x∈srt aB (m.map toO)↔∃ q∈m,toO q=x:=fun x=>by grind [ul]
 have lit:∀ x∈srt aB (m.map toO),x.litres=wx c x.index x.hour/\1<=x.litres:=fun x hx=>by
  obtain⟨q,hq,rfl⟩:=(hmem x).1 hx;have:=hm.entry hq;exact⟨this.1,hm.pos q hq⟩
 refine⟨fun x hx=>?_,J7 (J8 m) (GG hm.nd),lit,fun f t hf=>?_,fun x hx=>?_,?_⟩;obtain⟨q,hq,rfl⟩:=(hmem x).1 hx;rfl;exact⟨_,(hmem _).2 ⟨_,hm.mem (p:= { index:=f,hour:=t}) hf,rfl⟩,rfl,rfl⟩;have h1:=lit x hx;obtain⟨a,ha,ea⟩:=GI (p:=oP x.index x.hour) (c:=c) (by show wx c _ _≠0;omega);grind [oP,so]
 rw[(ul _).length_eq,ajn];exact hn
theorem Rr {c:List Claim}(h:okL1 c):kX c:=by
 intro _ m hm L hL;obtain⟨m',e,hm',hn⟩:=PS h;rw[e]at hm;simp only[aiZ]at hm;subst hm;have hlen:=hL.length_eq;have h1:=h.1;refine⟨IF _ L [] (by simp;omega),fun s hs=>?_⟩;rw[Cn]at hs;simp only[aiC,aiZ]at hs;subst hs;have hp:(L.map toO).Perm (m'.map toO):=hL.map _;refine⟨aaZ (J8 L) (sH hp (GG hm'.nd)),?_⟩;rw[XP (J8 m') (GG hm'.nd) hp];grind [an,Cn]
end Go.Sx
end
