/- Part of the proof that the law RefuseEither returns true and leaves its arguments as they were, for all arguments of bulk at most 1048576 (the Upto form). -/
import Derived.Test.YtaikmgjfkejlkaaGreatE114
import Derived.Test.YtaikmgjfkejlkaaGreatE108
import Derived.Test.YtaikmgjfkejlkaaGreatE107
import Derived.Test.YtaikmgjfkejlkaaGreatE106
import Derived.Deep.Slices
import Derived.OpenShut
import Derived.ChangeSame
import Derived.WideKeyArgs
import Derived.Below
import Derived.Test.YtaikmgjfkejlkaaGreatRows
set_option linter.all false
set_option maxHeartbeats 4000000
set_option maxRecDepth 100000
section
namespace Go.Sx
open Go.Proofs
open IntKind (i64)
section
variable {d:ah}{c:List Claim}{r h:Int}{N:Nat}{S:List M1}{m:Mp}{u:UP}{U:UM}{F:List T1}{w:WM}
theorem RL.mono (H:RL d c r h N S m u U F w){h':Int}{O:Nat}(X:h<=h')(W:N<=O):RL d c r h' O S m u U F w:=
 ⟨H.apv,H.ord,λx V=>⟨(H.one x V).1,by have:=(H.one x V).2;omega⟩,ald H.len W,H.rm,H.ru,λf E=>⟨(H.flt f E).1,by have:=(H.flt f E).2;omega⟩⟩
theorem RL.row (H:RL d c r h N S m u U F w):RL d c (r - 1) 0 N S m u U F w:=
 ⟨H.apv,H.ord,λx O=>⟨(H.one x O).1,by have:=(H.one x O).2;omega⟩,H.len,H.rm,H.ru,λf E=>⟨(H.flt f E).1,by have:=(H.flt f E).2;omega⟩⟩
theorem RL.unk (H:RL d c r h N S m u U F w)(p q:Int)(E O:Bool)(W:0<=q->E=O):RL d c r h N S m (cH .aok .bool u (p,q) E) (cH .bo .bool U (sl p q) O) F w:=
 ⟨H.apv,H.ord,H.one,H.len,H.rm,λa b V=>by
  rw[vb (k:=.bo),vb (k:=.aok),H.ru a b V];grind [GR],H.flt⟩
theorem RL.late (H:RL d c r h N S m u U F w){f:T1}(V:LF d c S f)(h1:f.index=r)(h2:f.hour=h):RL d c r (h+1) N S m u U (F++[f]) w:=
 ⟨H.apv,H.ord,λx E=>⟨(H.one x E).1,by have:=(H.one x E).2;omega⟩,H.len,H.rm,H.ru,λg O=>by
  rcases alu.1 O with q|q;exact⟨(H.flt g q).1,by have:=(H.flt g q).2;omega⟩;grind⟩
theorem RL.neg (H:RL d c r h N S m u U F w)(p q v:Int)(O:q<0):RL d c r h N S (cH .aok .int m (p,q) v) u U F w:=by
 have e:∀ a b:Int,0<=b->aq .aok .int (cH .aok .int m (p,q) v) (a,b)=aq .aok .int m (a,b):=λa b E=>by
  rw[vb (k:=.aok),if_neg (λe=>by grind)]
 exact⟨λa b E=>by rw[e a b E];exact H.apv a b E,H.ord,H.one,H.len,λa b E=>by rw[e a b E];exact H.rm a b E,H.ru,H.flt⟩
theorem RL.add (H:RL d c r h N S m u U F w){x:M1}(X:PS d c S x)(h1:x.reach=r)(h2:x.hour+(rch d x.reach).delay=h)(hup:(rch d x.reach).up<r)(hb:∀ a b,0<=drw d (c.map toC++S.map toG) a b/\drw d (c.map toC++S.map toG) a b<=5497558138880)(hl:1<=x.dd/\x.dd<=1073741824):
  RL d c r (h+1) (N+1) (S++[x]) (cH .aok .int m ((rch d x.reach).up,x.hour) (i64.wrap (aq .aok .int m ((rch d x.reach).up,x.hour)+x.dd))) u U F (cH .bo .int w (sl (rch d x.reach).up x.hour) (i64.wrap (aq .bo .int w (sl (rch d x.reach).up x.hour)+x.dd))):=by
 have W:∀ a b,r<=a->drw d (c.map toC++(S++[x]).map toG) a b=drw d (c.map toC++S.map toG) a b:=λa b V=>by
  rw[Ha,if_neg (by omega)];omega
 have Y:=H.apv (rch d x.reach).up x.hour X.h0;have b0:=hb (rch d x.reach).up x.hour;have O:∀ y,PS d c S y->r<=y.reach->PS d c (S++[x]) y:=λy hy V=>⟨hy.i0,hy.i1,hy.h0,hy.h1,by rw[W _ _ V];exact hy.w,hy.w1,hy.v⟩;refine⟨λa b h0=>?_,aln.2 ⟨H.ord,by simp,λy hy z hz=>?_⟩,λy hy=>?_,?_,λa b h0=>?_,H.ru,λf E=>?_⟩;rw[vb (k:=.aok),Ha,Y,aA (by omega) (by omega)];by_cases q:a=(rch d x.reach).up/\b=x.hour
 grind
 rw[if_neg (λe=>q (by grind)),if_neg q,H.apv a b h0];grind;rw[alz.1 hz];have:=(H.one y hy).2;grind [plt,mD]
 rcases alu.1 hy with q|q;have:=(H.one y q).2;exact⟨O y (H.one y q).1 (by omega),by omega⟩;grind
 rw[ak9];exact Nat.succ_le_succ H.len;rw[vb (k:=.bo),vb (k:=.aok),H.rm _ _ X.h0,H.rm a b h0];simp only[GR];have:=(H.flt f E).2;have E:=(H.flt f E).1;exact⟨⟨E.kind,E.i0,E.i1,E.h0,E.h1,by rw[W _ _ (by omega)];exact E.w,E.w1,E.b⟩,by omega⟩
end
section
variable {d:ah}{c:List Claim}{out:List Order}(hr:aoL d)(hc:∀ a∈c,1<=a.dd/\a.dd<=1073741824)(hn:c.length<=4096)
include hr hc hn
theorem Zu {r k N:Nat}(X:r<d.reaches.length)(hk:(k:Int) <d.hours)(hN:N<1024){S:List M1}{m:Mp}{u:UP}{U:UM}{F:List T1}{w:WM}(H:RL d c r k N S m u U F w){t:List M1×Mp×UP×Int}(ht:t.2.2.2=(r:Int)){s1:List T1×WM×UM×Int}(hs:s1.2.2.2=(r:Int)):
  ∃ S' m' u' U' F' w',aW { d:=d,c:=c} t k (S,m,u)=.inr (S',m',u')/\aC d s1 k (U,F,w)=.inr (U',F',w')/\RL d c r ((k+1:Nat):Int) (N+1) S' m' u' U' F' w'/\∀ y W,PLR out S m u y->aF d ((r:Int),(k:Int)) y=.inr W->PLR out S' m' u' W:=by
 have hup:=WE hr X;have hdl:=kW hr X;have hH:=hr.hours;have hS:∀ x∈S,1<=x.dd/\x.dd<=1073741824:=λx hx=>by have:=(H.one x hx).1.lit hr;omega
 have hb:=LA (d:=d) hc hn hS (by have:=H.len;omega);have hw:i64.wrap ((k:Int) - (rch d r).delay)=(k:Int) - (rch d r).delay:=aA (by omega) (by omega);have hm:=H.apv r k (by omega);have hbk:=hb r k;have ek:(((k+1:Nat):Int))=(k:Int)+1:=by omega
 have em:=H.rm r k (by omega);have eu:=H.ru r k (by omega);have a1:=ah7 (s:= { d:=d,c:=c}) (t:=t) (k:=k) (S:=S) (m:=m) (u:=u);have a2:=ah8 (s:= { d:=d,c:=c}) (t:=t) (k:=k) (S:=S) (m:=m) (u:=u);have a3:=ah9 (s:= { d:=d,c:=c}) (t:=t) (k:=k) (S:=S) (m:=m) (u:=u);have l1:=adm (d:=d) (s1:=s1) (k:=k) (u:=U) (F:=F) (w:=w);have l2:=Cm (d:=d) (s1:=s1) (k:=k) (u:=U) (F:=F) (w:=w);have l3:=adn (d:=d) (s1:=s1) (k:=k) (u:=U) (F:=F) (w:=w);have l4:=Cn (d:=d) (s1:=s1) (k:=k) (u:=U) (F:=F) (w:=w);rw[ht]at a1 a2 a3;rw[hs]at l1 l2 l3 l4;rw[hw]at a2 a3 l1 l3 l4;rw[em,eu]at l2 l3 l4;rw[eu]at l1;have hP:∀ y:List Order×Mp,PLR out S m u y->aF d ((r:Int),(k:Int)) y=(bif aq .aok .int m ((r:Int),(k:Int)) ==0 then .inr y else bif(!(ax (rch d r) (aq .aok .int m ((r:Int),(k:Int)))).2) ||decide ((k:Int) < (rch d r).delay)then .inl y.2 else .inr (y.1++[{ hour:=(k:Int) - (rch d r).delay,index:=r,dd:=(ax (rch d r) (aq .aok .int m ((r:Int),(k:Int)))).1,aol:=false}],cH .aok .int y.2 ((rch d r).up,(k:Int) - (rch d r).delay) (i64.wrap (aq .aok .int m ((rch d r).up,(k:Int) - (rch d r).delay)+(ax (rch d r) (aq .aok .int m ((r:Int),(k:Int)))).1)))):=λy ⟨_,h2,_⟩ =>by
  unfold aF;grind
 cases E:aq .aok .bool u ((r:Int),(k:Int))with
 |true=>
  refine⟨_,_,_,_,_,_,a2 (.inl E),l1 E,(H.mono (by omega) (by omega)).unk _ _ _ _ λ_=>rfl,λy W hy _=>?_⟩;rw[hy.2.2]at E;cases E
 |false=>
  by_cases V:aq .aok .int m ((r:Int),(k:Int))=0
  refine⟨_,_,_,_,_,_,a1 E V,l2 E V,H.mono (by omega) (by omega),λy W hy e=>?_⟩;grind
  have hb0:(aq .aok .int m ((r:Int),(k:Int)) ==0)=false:=by grind
  have h1d:1<=drw d (c.map toC++S.map toG) r k:=by
   grind
  have h1n:(1:Int)<=aq .aok .int m ((r:Int),(k:Int)):=by grind
  have Y:∀ q:(ax (rch d r) (aq .aok .int m ((r:Int),(k:Int)))).2=false\/(k:Int) < (rch d r).delay,LF d c S (ltF k r (aq .aok .int m ((r:Int),(k:Int)))):=λq=>⟨rfl,am6 r,by show(r:Int) <_;omega,am6 k,hk,hm,h1n,q⟩;cases hi:(ax (rch d r) (aq .aok .int m ((r:Int),(k:Int)))).2 with
  |false=>
   refine⟨_,_,_,_,_,_,a2 (.inr ⟨V,hi⟩),l3 E V (.inl hi),?_,λy W hy e=>?_⟩;rw[ek];exact(((H.mono (alJ _) (aoq _)).late (Y (.inl hi)) rfl rfl).unk _ _ _ _ λ_=>by grind);grind
  |true=>
   by_cases O:(k:Int) < (rch d r).delay
   have e3:=a3 E V hi;rw[decide_eq_false (by omega),cond_false]at e3;refine⟨_,_,_,_,_,_,e3,l3 E V (.inr O),?_,λy W hy e=>?_⟩;rw[ek];have:=(((H.mono (alJ _) (aoq N)).late (Y (.inr O)) rfl rfl).neg (rch d r).up ((k:Int) - (rch d r).delay) (i64.wrap (aq .aok .int m ((rch d r).up,(k:Int) - (rch d r).delay)+(ax (rch d r) (aq .aok .int m ((r:Int),(k:Int)))).1)) (by omega));refine⟨this.apv,this.ord,this.one,this.len,this.rm,λa b hb=>?_,this.flt⟩;rw[vb (k:=.bo),if_neg (λe=>by grind [GR])];exact this.ru a b hb;grind
   have e3:=a3 E V hi;rw[decide_eq_true (by omega),cond_true]at e3;have hx:PS d c S { reach:=r,hour:=(k:Int) - (rch d r).delay,dd:=(ax (rch d r) (aq .aok .int m ((r:Int),(k:Int)))).1,wanted:=aq .aok .int m ((r:Int),(k:Int))}:=
    ⟨am6 r,by grind,by grind,by grind,by
     grind,h1n,by
     grind⟩
   have hxl:=hx.lit hr;refine⟨_,_,_,_,_,_,e3,l4 E V hi O,?_,λy W hy e=>?_⟩;rw[ek];exact H.add hx rfl (by grind) hup hb ⟨hxl.1,hxl.2.1⟩;rw[hP y hy,hb0,hi,decide_eq_false O]at e;cases e;refine⟨?_,λa b=>?_,hy.2.2⟩;rw[hy.1,amo,alG];rfl;show aq .aok .int (cH .aok .int y.2 _ _) (a,b)=aq .aok .int (cH .aok .int m _ _) (a,b);rw[vb (k:=.aok),vb (k:=.aok),hy.2.1]
theorem Xi {r:Nat}(E:r<d.reaches.length){t:List M1×Mp×UP×Int}(ht:t.2.2.2=(r:Int)){s1:List T1×WM×UM×Int}(hs:s1.2.2.2=(r:Int)){H:Nat}(hH:(H:Int)=d.hours):∀ (n k N:Nat) (S:List M1) (m:Mp) (u:UP) (U:UM) (F:List T1) (w:WM),k+n=H->N+n<=1024->RL d c r k N S m u U F w->
  ∃ V W O Y F' w',aj (aW { d:=d,c:=c} t) n k (S,m,u)=.inr (V,W,O)/\aj (aC d s1) n k (U,F,w)=.inr (Y,F',w')/\RL d c r (H:Int) (N+n) V W O Y F' w'/\∀ y X,PLR out S m u y->cB (aF d) (BF r H k) y=.inr X->PLR out V W O X
 |0,k,N,S,m,u,U,F,w,hk,_,h=>by
  have:k=H:=by omega
  subst this;exact⟨_,_,_,_,_,_,rfl,rfl,h,λy X hy e=>by rw[xa]at e;cases e;exact hy⟩
 |n+1,k,N,S,m,u,U,F,w,hk,hN,h=>by
  obtain⟨S1,m1,u1,U1,F1,w1,e1,e2,h1,p1⟩:=Zu (out:=out) hr hc hn E (by omega) (by omega) h ht hs;obtain⟨S2,m2,u2,U2,F2,w2,e3,e4,h2,p2⟩:=Xi E ht hs hH n (k+1) (N+1) S1 m1 u1 U1 F1 w1 (by omega) (by omega) h1;grind [aj,pC,cB]
theorem Xj {H:Nat}(hH:(H:Int)=d.hours):∀ (r n E j V N:Nat) (S:List M1) (m:Mp) (u:UP) (U:UM) (F:List T1) (w:WM),r<n->r<E->r<=d.reaches.length->N+r*H<=1024->RL d c ((r:Int) - 1) 0 N S m u U F w->
  ∃ X m' u' U' F' w',aj (dm { d:=d,c:=c}) n j (S,m,u,(r:Int) - 1)=.inl X/\aj (cg d) E V (F,w,U,(r:Int) - 1)=.inl F'/\RL d c (-1) 0 1024 X m' u' U' F' w'/\∀ y W,PLR out S m u y->cB (aF d) (vD H r) y=.inr W->PLR out X m' u' W
 |0,n+1,E+1,j,V,N,S,m,u,U,F,w,_,_,_,hN,h=>by
  refine⟨S,m,u,U,F,w,rfl,?_,h.mono (alJ _) (by omega),λy W hy e=>by cases e;exact hy⟩;rfl
 |r+1,n+1,E+1,j,V,N,S,m,u,U,F,w,hn1,hn2,hR,hN,h=>by
  have Y:=hr.reaches;have e0:((r+1:Nat):Int) - 1=(r:Int):=by omega
  rw[e0]at h;have O:N+H+r*H<=1024:=by grind
  obtain⟨S1,m1,u1,U1,F1,w1,e1,e2,h1,p1⟩:=Xi (out:=out) hr hc hn (show r<d.reaches.length by omega) (t:=(S,m,u,(r:Int))) rfl (s1:=(F,w,U,(r:Int))) rfl hH H 0 N S m u U F w (by omega) (by omega) h;obtain⟨S2,m2,u2,U2,F2,w2,e3,e4,h2,p2⟩:=Xj hH r n E (j+1) (V+1) (N+H) S1 m1 u1 U1 F1 w1 (by omega) (by omega) (by omega) O h1.row;have eH:d.hours.toNat=H:=by omega
  refine⟨S2,m2,u2,U2,F2,w2,?_,?_,h2,λy W hy e=>?_⟩;rw[aj,e0];have:dm { d:=d,c:=c} j (S,m,u,(r:Int))=.inr (S1,m1,u1,(r:Int) - 1):=by
   unfold dm;rw[decide_eq_true (show(r:Int)>=0 by omega),cond_true];grind [aA]
  grind
  grind [aj,N0]
  grind [uL,xG]
end
def Jr {p:Order->Bool}{g:Order->Int}:∀ {l:List Order},(∀ x∈l,p x=true->x.dd=g x)->eB p l=(l.map λx=>if p x=true then g x else 0).sum
 | [],_=>rfl
 |x::l,h=>by
  have E:=Jr (p:=p) (g:=g) (l:=l) λy hy=>h y (ak6 _ hy);grind [eB]
def Od (g k:Order->Int):∀ l:List Order,(l.map λx=>g x+k x).sum=(l.map g).sum+(l.map k).sum
 | [] =>rfl
 |x::l=>by simp only[alt,an_,Od g k l];omega
def CA {g:Order->Int}:∀ {l:List Order},(∀ x∈l,g x=0)->(l.map g).sum=0
 | [],_=>rfl
 |x::l,h=>by simp only[alt,an_,CA λy hy=>h y (ak6 _ hy),h x alc];rfl
def Oe {g:Order->Int}{z:Order}:∀ {l:List Order},l.Pairwise (λx y=>¬K x y)->z∈l->(∀ x∈l,¬K x z->g x=0)->(l.map g).sum=g z
 |x::l,E,hz,h=>by
  obtain⟨h1,h2⟩:=alL.1 E;simp only[alt,an_];rcases ala.1 hz with rfl|hz;rw[CA λy hy=>h y (ak6 _ hy) λq=>h1 y hy q.symm];omega;rw[Oe h2 hz λy hy=>h y (ak6 _ hy),h x alc (h1 z hz)];omega
def Hb {p:aoG}:∀ {c:List Claim},(∀ a∈c,1<=a.dd)->0<=fS p c
 | [],_=>alJ _
 |a::c,h=>by
  have:=Hb (p:=p) λb E=>h b (ak6 _ E);grind [fS]
def Hc {y:Claim}:∀ {c:List Claim},(∀ a∈c,1<=a.dd)->y∈c->1<=fS (qf y) c
 |a::c,h,hy=>by
  have V:0<=fS (qf y) c:=Hb λa E=>h a (ak6 _ E);have h1:=h a alc;unfold fS;rcases ala.1 hy with rfl|hy;grind
  have:=Hc (λb O=>h b (ak6 _ O)) hy;omega
section
variable {d:ah}{c:List Claim}
theorem He {r h:Int}{x:Order}(E:x.aol=true):oj d r h x=((x.hour==h)&&((d.zs.getD x.index.toNat default).reach==r)):=by
 grind [oj]
theorem Tv {o:List Order}(O:aqH c o)(hl:∀ a∈c,1<=a.dd)(hk:o.Pairwise λx y=>¬K x y)(r h:Int):drw d o r h=drw d (c.map toC) r h:=by
 unfold drw;rw[Jr λx hx _=>(O.lit x hx).1];have key:∀ E:List Claim,(∀ a∈E,∃ z∈o,z.index=a.gl/\z.hour=a.hour)->(o.map λx=>if oj d r h x=true then u6 E x.index x.hour else 0).sum=eB (oj d r h) (E.map toC):=λE=>by
  induction E with
  |nil=>intro _;exact CA λx _=>by split <;>rfl
  |cons a E ih=>
   intro V;have e1:∀ x:Order,(if oj d r h x=true then u6 (a::E) x.index x.hour else 0)=(if oj d r h x=true then(if oP x.index x.hour=qf a then a.dd else 0)else 0)+(if oj d r h x=true then u6 E x.index x.hour else 0):=λx=>by
    split
    rfl;rfl
   rw[show(λx:Order=>if oj d r h x=true then u6 (a::E) x.index x.hour else 0)=λx=>(if oj d r h x=true then(if oP x.index x.hour=qf a then a.dd else 0)else 0)+(if oj d r h x=true then u6 E x.index x.hour else 0)from funext e1,Od,ih λb hb=>V b (ak6 _ hb)];obtain⟨z,W,Y,X⟩:=V a alc;rw[Oe hk W λx hx hn=>by
    split
    rw[if_neg λq=>hn ?_];unfold oP qf at q;simp only[aoG.mk.injEq]at q;exact⟨by omega,by omega,by rw[O.out x hx,O.out z W]⟩;rfl]
   have e2:oP a.gl a.hour=qf a:=rfl;have e3:oj d r h (toC a)=oj d r h z:=by rw[He (O.out z W),He rfl,Y,X];rfl
   rw[Y,X,if_pos e2,alt,eB,e3];cases oj d r h z <;>rfl
 refine key c λa ha=>?_;have:=Hc hl ha;obtain⟨z,W,Y,X⟩:=O.all a.gl a.hour (by
  show fS (oP a.gl a.hour) c≠0;have e:oP a.gl a.hour=qf a:=rfl;rw[e];omega)
 grind
theorem yg (hc:∀ a∈c,1<=a.dd/\a.dd<=1073741824)(hn:c.length<=4096)(a b:Int):aq .aok .int (bD { d:=d,c:=c}) (a,b)=drw d (c.map toC) a b:=by
 obtain⟨m,e,h⟩:=jA (step:=iE { d:=d,c:=c}) (λj m=>∀ a b,aq .aok .int m (a,b)=drw d ((c.take j).map toC) a b) c.length 0 [] (λa b=>rfl) (λj m _ E h=>by
  rw[ak8]at E;refine⟨_,rfl,λa b=>?_⟩;have g:c.getD j default=c[j]:=iC c default E;have O:=u5 (d:=d) (l:=(c.take j).map toC) (λx X=>by
   obtain⟨z,V,rfl⟩:=al3.1 X;exact hc z (alX V))
  have hl:=hc c[j] (alR E);rw[alY,al0]at O;have W:=O (d.zs.getD c[j].gl.toNat default).reach c[j].hour;have Y:(((min j c.length:Nat)):Int)<=4096:=by omega
  simp only[g];rw[vb (k:=.aok),alF E,amo,t5,alt,alM,D4,He rfl,h,h,aA (by omega) (by omega)];show _=_+(bif(c[j].hour==b)&&((d.zs.getD c[j].gl.toNat default).reach==a)then c[j].dd else 0);grind)
 simp_all [bD]
def Qk (h:dI d c=0):(∀ a∈c,1<=a.dd/\a.dd<=1073741824)/\c.length<=4096:=
 ⟨λa E=>GN (((kv d c).1 h).2.2.1 a E),((kv d c).1 h).2.1⟩
theorem Js (X:apP d c):(∃ m u U w,RL d c (-1) 0 1024 (aY { d:=d,c:=c}) m u U (cG (ay c) d) w)/\((aO d (ay c)).2=(true,0)->(aO d (ay c)).1=srt aL (ay c++(aY { d:=d,c:=c}).map toG)):=by
 have W:=X.nar;have hr:=W.good.right;obtain⟨hc,hn⟩:=Qk X.chk;have h64:=hr.reaches;have hH:=hr.apz;obtain⟨w0,_,⟨Y,O,hw0⟩,e1,_⟩:=zG hr W.good.apC X.outs.out;have hdr:=((yd hr W.good.apC).1 Y O).2;have E:=Tv (d:=d) X.outs (λa ha=>(hc a ha).1) W.good.keys;have ew:i64.wrap ((d.reaches.length:Int) - 1)=(d.reaches.length:Int) - 1:=aA (by omega) (by omega);have hmul:d.reaches.length*d.hours.toNat<=1024:=by
  have:((d.reaches.length*d.hours.toNat:Nat):Int)=(d.reaches.length:Int)*d.hours:=by grind
  have:=X.wide;omega
 obtain⟨S,m,u,U,F,w,f1,f2,f3,f4⟩:=Xj (out:=ay c) hr hc hn (H:=d.hours.toNat) (by omega) d.reaches.length (d.reaches.length+1) (d.reaches.length+1) 0 0 0 [] (bD { d:=d,c:=c}) [] [] [] w0 (by omega) (by omega) (ak2 _) (by omega)
  ⟨λa b _=>by rw[yg hc hn,alM,ali],List.Pairwise.nil,λx hx=>(by cases hx),ak2 _,λa b _=>by rw[hw0,hdr,E,yg hc hn],λa b _=>rfl,λf hf=>(by cases hf)⟩
 have eS:aY { d:=d,c:=c} =S:=by
  grind [aY]
 have eF:cG (ay c) d=F:=by
  grind
 rw[eS,eF];refine⟨⟨m,u,U,w,f3⟩,λV=>?_⟩;have hp:=f4 (ay c,Y);unfold aO at V |-;rw[(vY d _).2 W,O]at V |-;simp only[bne_self_eq_false,cond_false]at V |-;rw[show cO d=vD d.hours.toNat d.reaches.length from rfl]at V |-;cases q:cB (aF d) (vD d.hours.toNat d.reaches.length) (ay c,Y)with
 |inl y=>grind
 |inr y=>
  rw[q]at V;have:=(hp y ⟨by grind,λa b=>by grind [yg],λa b=>rfl⟩ q).1;grind
end
def LB {α:Type}{R:α->α->Prop}(E:∀ x,¬R x x){p:α->Bool}:∀ {P S:List α},P.Sublist S->S.Pairwise R->(∀ y∈S,p y=true->y∈P)->P.filter p=S.filter p
 |_,_,.slnil,_,_=>rfl
 |P,a::S,.cons _ h,hS,hp=>by
  obtain⟨h1,h2⟩:=alL.1 hS;have O:p a=false:=by
   grind
  rw[List.filter_cons_of_neg (by grind)];exact LB E h h2 λy hy q=>hp y (ak6 _ hy) q
 |a::P,_::S,.cons_cons _ h,hS,hp=>by
  obtain⟨h1,h2⟩:=alL.1 hS;have:=LB (p:=p) E h h2 λy hy q=>(ala.1 (hp y (ak6 _ hy) q)).resolve_left λe=>E a (by grind);grind
def Hf {p:Order->Bool}:∀ (S:List M1),eB p (S.map toG)=eB p ((S.filter λy=>p (toG y)).map toG)
 | [] =>rfl
 |x::S=>by
  rw[anN,alt,eB,Hf S];cases q:p (toG x)with
  |true=>rw[if_pos rfl,alt,eB,q]|false=>simp
def lnk (d:ah)(z y:M1):Prop:=(rch d y.reach).up=z.reach/\y.hour=z.hour+(rch d z.reach).delay
structure BJ (d:ah)(f:T1)(S:List M1)(L:List (Int×M1))(t:UP×List M1):Prop where
 ex:∃ V,S=(L.map (·.2)).reverse++V/\t.2.reverse.Sublist V/\(∀ y∈V,bV y f d.reaches=true->y∈t.2)/\∀ z∈t.2,∀ y∈V,lnk d z y->y∈t.2
 mp:∀ a b,aq .aok .bool t.1 (a,b)=true↔∃ z∈t.2,z.reach=a/\z.hour+(rch d z.reach).delay=b
variable {S:List M1}
theorem Ih{d:ah}{c:List Claim}(hr:aoL d)(E:S.Pairwise plt)(hi:∀ x∈S,0<=x.reach/\x.reach< (d.reaches.length:Int)/\0<=x.hour/\x.hour<d.hours)(hl:S.length<=1024)(f:T1):
  (b9 { d:=d,c:=c} S f).Sublist S/\(∀ y∈S,bV y f d.reaches=true->y∈b9 { d:=d,c:=c} S f)/\∀ z∈b9 { d:=d,c:=c} S f,∀ y∈S,lnk d z y->y∈b9 { d:=d,c:=c} S f:=by
 have hH:=hr.hours;have hstep:∀ (x:Int×M1) (L:List (Int×M1)) (t:UP×List M1),BJ d f S (x::L) t->∀ t',b8 { d:=d,c:=c} S f x t=.inr t'->BJ d f S L t':=λx L t H t' e=>by
  obtain⟨V,h1,h2,h3,h4⟩:=H.ex;rw[alt,anA,alG,List.singleton_append]at h1;have hx:=hi x.2 (by rw[h1];simp);have O:x.2.reach.toNat<d.reaches.length:=by omega
  have W:=kW hr O;rw[alQ hx.1]at W;have hw:i64.wrap (x.2.hour+(rch d x.2.reach).delay)=x.2.hour+(rch d x.2.reach).delay:=aA (by omega) (by omega);have hV:∀ y∈V,plt x.2 y/\y∈S:=λy hy=>by
   rw[h1]at E;exact⟨(alL.1 (aln.1 E).2.1).1 y hy,by grind⟩
  unfold b8 at e;simp only at e;cases q:(bV x.2 f d.reaches||aq .aok .bool t.1 ((d.reaches.getD x.2.reach.toNat default).up,x.2.hour))with
  |true=>
   rw[q,cond_true]at e;cases e;refine⟨⟨x.2::V,h1,by grind,λy hy q=>?_,λz hz y hy q=>?_⟩,λa b=>?_⟩;grind
   rcases ala.1 hy with rfl|hy;simp;rcases alu.1 hz with hz|hz;grind
   exfalso;obtain⟨g1,g2⟩:=hV y hy;have g3:=hi y g2;have X:=WE hr (show y.reach.toNat<d.reaches.length by omega);rw[alQ g3.1]at X;have:=q.1;grind [plt,mD]
   simp only;unfold rch at hw;rw[vb (k:=.aok),hw];by_cases q2:(a,b)=(x.2.reach,x.2.hour+(d.reaches.getD x.2.reach.toNat default).delay)
   grind
   rw[if_neg q2,H.mp];constructor <;>grind
  |false=>
   rw[q,cond_false]at e;cases e;rw[alC]at q;refine⟨⟨x.2::V,h1,h2.cons _,λy hy g=>?_,λz hz y hy g=>?_⟩,H.mp⟩;grind
   rcases ala.1 hy with rfl|hy;have:=(H.mp (rch d x.2.reach).up x.2.hour).2 ⟨z,hz,g.1.symm,g.2.symm⟩;grind
   grind
 have Y:=(RI (l:=S) (by omega)).1;cases q:cB (b8 { d:=d,c:=c} S f) (nA S) ([],[])with
 |inl x=>exact x.elim
 |inr t=>
  have H:=(AT _ hstep _ _ ⟨⟨[],by rw[Jp,List.reverse_reverse,ali],List.Sublist.refl _,λy hy=>(by cases hy),λz hz=>(by cases hz)⟩,λa b=>⟨λh=>(by cases h),λ⟨z,hz,_⟩ =>(by cases hz)⟩⟩).1 t q;obtain⟨V,h1,h2,h3,h4⟩:=H.ex;rw[alM,List.reverse_nil,ak_]at h1;subst h1;have hp:t.2.reverse.Pairwise λx y=>bJ x y<0:=(E.sublist h2).imp λh=>(Cw _ _).2 h;have eP:b9 { d:=d,c:=c} S f=t.2.reverse:=by
   unfold b9;rw[Y,q];exact(zu zH (List.reverse_perm _).symm hp).2
  grind
@[go_sem] def ug (a:aoz)(b:aoz)(k_0:Nat)(x4:Unit):Unit⊕Unit:=letI q0:=a.Y1.getD k_0 default;letI q1:=b.Y1.getD k_0 default;(bif(!((q0.reach==q1.reach)&&((q0.hour==q1.hour)&&((q0.dd==q1.dd)&&(q0.wanted==q1.wanted)))))then .inl ()else .inr ())
def rF (a:aoz)(b:aoz)(k_0:Nat)(x4:Unit):Prop:=(a.Y1.length<=aN->(0<=(k_0:Int)/\(k_0:Int) < (b.Y1.length:Int)))
def v9 (a:aoz)(b:aoz):Bool:=(bif((((a.kind !=b.kind) ||(a.reach !=b.reach)) ||(a.hour !=b.hour)) ||((a.Y1.length:Int) !=(b.Y1.length:Int)))then false else(match aj (ug a b) a.Y1.length 0 ()with| .inl u0=>false| .inr x4=>(sY a.ai b.ai)))
def pg (a:aoz)(b:aoz):Prop:=letI q0:=ug a b;(((((a.kind !=b.kind) ||(a.reach !=b.reach)) ||(a.hour !=b.hour)) ||((a.Y1.length:Int) !=(b.Y1.length:Int)))=false->(okI q0 (rF a b) a.Y1.length 0 ()/\(∀ x4,aj q0 a.Y1.length 0 ()=.inr x4->(p_ a.ai b.ai))))
@[go_sem] def LD:List SV->Option Con:=(pD .refusal λa=>(pD .refusal λb=>(pE (.det (pg a b) (.v (.bool (v9 a b)))))))
theorem Ii:P1 Tryz.prog 13 LD:=by
 have hG:=mG (cn [.sl .int,.sl .int] AE W2) W2;refine fN hG Tryz.f13 [.o] (az λa=>(az λb=>(am (λX=>?_))));dsimp only[an]at X;unfold pg at X;refine⟨nbl rfl,(λid st=>bif Nat.beq id 0 then some (LCR (ρ:=Unit) (σ:=Unit) 2 [] [0,1] (λE O=>⟨[(2,.ptr 0 0),(3,.ptr 1 0),(5,.v (.int .i64 (E:Int)))],[.cells (cellsOf .refusal a),.cells (cellsOf .refusal b)]⟩) (ug a b) (rF a b) a.Y1.length () (True) (λ_=>.ret) (λW=>⟨[(4,.v (.bool false))],[.dead,.dead]⟩) st)else none),?_,?_⟩;unfold ae Tryz.f13;simp only[ak,true_and,and_true];refine d9 (a.Y1.length<=aN) mixed aJ hG kr (λ_=>rfl) (a.Y1.length:Int) rfl fH (λhb0 E O Y V hw hc=>⟨L0,ag _,?_⟩) (λhb0 O hc=>?_) λhb0 E O=>?_;unfold rF at V;try simp only[hw,ak1]at V
 exact bE (jl [0,1]);exact bF (jl [0,1]);exact zq8;unfold ae Tryz.f13;try unfold v9
 exact zq2
def i6 (a0:ah)(a1:List bn)(a2:Int)(a3:Int)(a4:Int):Bool:=letI q0:=cS a0 a1 a2 a3 a4;letI q1:=v9 (q0.1) ({ ai:=[],kind:=0,reach:=0,hour:=0,Y1:=[]}:aoz);letI q2:=aB a0 a1 a2 a3 a4;letI q3:=dz a0 a1 a2 a3 a4 (q0.1);letI q4:=bv a0 (q2.1);(bif(!qh)then false else(bif(!(qg a0 a1 a2 a3 a4))then true else(bif(q0.2.2 !=0)then((!q0.2.1)&&q1)else(bif(((q2.2 !=0) ||(q4.2.2 !=0)) ||(q4.2.1==q0.2.1))then false else(bif(!q0.2.1)then q1 else((q3.2==0)&&q3.1))))))
def jG (a0:ah)(a1:List bn)(a2:Int)(a3:Int)(a4:Int):Prop:=letI q0:=cS a0 a1 a2 a3 a4;letI q1:=(!q0.2.1)=true->(pg (q0.1) ({ ai:=[],kind:=0,reach:=0,hour:=0,Y1:=[]}:aoz));letI q2:=aB a0 a1 a2 a3 a4;letI q3:=bv a0 (q2.1);((r7)/\((!qh)=false->((t9 a0 a1 a2 a3 a4)/\((!(qg a0 a1 a2 a3 a4))=false->((mK a0 a1 a2 a3 a4)/\(((q0.2.2 !=0)=true->q1)/\((q0.2.2 !=0)=false->((ra a0 a1 a2 a3 a4)/\((iO a0 (q2.1))/\((((q2.2 !=0) ||(q3.2.2 !=0)) ||(q3.2.1==q0.2.1))=false->(q1/\((!q0.2.1)=false->(gZ a0 a1 a2 a3 a4 (q0.1))))))))))))))
@[go_sem] def mt:List SV->Option Con:=(pD .al λa0=>(pR .B1 λa1=>(pI λa2=>(pI λa3=>(pI λa4=>(pE (.det (jG a0 a1 a2 a3 a4) (.v (.bool (i6 a0 a1 a2 a3 a4))))))))))
theorem wF:P1 Tryz.prog 5 mt:=by
 have hG:=mG (cp Ig (cn [.st .al,.sl .B1,.o,.o,.o] Lx (cn [.st .al,.sl .B1,.o,.o,.o] yY (cn [.st .refusal,.st .refusal] Ii (cn [.st .al,.sl .B1,.o,.o,.o,.st .refusal] wo (cn [.st .al,.sl .B1,.o,.o,.o] AI (cn [.st .al,.sl .Q1] t6 W2))))))) W2;refine fN hG Tryz.f5 [.o] (az λa0=>(bM λa1=>(aG λO=>(aG λW=>(aG λV=>(am (λE=>?_)))))));dsimp only[an]at E;unfold jG at E;refine⟨nbl rfl,L0,ag _,?_⟩;unfold ae Tryz.f5;try unfold i6
 exact zq2
theorem Bb{p:Order->Bool}{P:List M1}(h:P.Sublist S)(O:S.Pairwise plt)(E:∀ y∈S,p (toG y)=true->y∈P):eB p (P.map toG)=eB p (S.map toG):=by
 rw[Hf P,Hf S,LB (R:=plt) (λx h=>by simp_all [plt,mD]) h O E]
structure MP (d:ah)(c:List Claim)(P:List M1)(x:M1):Prop where
 i0:0<=x.reach
 i1:x.reach< (d.reaches.length:Int)
 h0:0<=x.hour
 h1:x.hour<d.hours
 l0:1<=x.dd
 l1:x.dd<=1073741824
 w1:1<=x.wanted
 w:x.wanted=drw d (c.map toC++P.map toG) x.reach (x.hour+(rch d x.reach).delay)
 s:x.dd=(rch d x.reach).aoI\/wst (rch d x.reach) (x.dd - 1) <x.wanted
section
variable {d:ah}{c:List Claim}{P:List M1}
theorem Zv (hr:aoL d)(hc:∀ a∈c,1<=a.dd/\a.dd<=1073741824)(hn:c.length<=4096)(hP:P.Pairwise plt)(hl:P.length<=1024)(Y:∀ x∈P,MP d c P x):∃ m,dK { d:=d,c:=c} P=(m,true)/\∀ a b,aq .aok .int m (a,b)=drw d (c.map toC++P.map toG) a b:=by
 have h64:=hr.reaches;have h1R:=hr.one;have hH:=hr.hours;have hH1:=hr.apz;have hb:=LA (d:=d) hc hn (S:=P) (λx E=>⟨(Y x E).l0,(Y x E).l1⟩) hl;have ew1:i64.wrap ((d.reaches.length:Int) - 1)=(d.reaches.length:Int) - 1:=aA (by omega) (by omega);have ew2:i64.wrap (d.hours - 1)=d.hours - 1:=aA (by omega) (by omega);have V:∀ a b n:Int,a<=n->n<=b->ct n a b=true:=λa b n h1 h2=>(v6 n a b).2 ⟨h1,h2⟩;obtain⟨t,e,h,_⟩:=jA (step:=dJ { d:=d,c:=c} P) (λj t=>(∀ a b,aq .aok .int t.1 (a,b)=drw d (c.map toC++(P.take j).map toG) a b)/\∀ a b,aq .aok .bool t.2 (a,b)=true->∃ x∈P.take j,x.reach=a/\x.hour=b) P.length 0 (bD { d:=d,c:=c},[]) ⟨λa b=>by rw[yg hc hn,ana,alM,ali],λa b h=>(by cases h)⟩ (λj t _ O ⟨h,h2⟩ =>by
  rw[ak8]at O;have g:P.getD j default=P[j]:=iC P default O;have E:=Y P[j] (alR O);have hbb:=LA (d:=d) hc hn (S:=P.take j) (λx E=>⟨(Y x (alX E)).l0,(Y x (alX E)).l1⟩) (by grind) (rch d P[j].reach).up P[j].hour;have X:aq .aok .bool t.2 (P[j].reach,P[j].hour)=false:=by
   cases q:aq .aok .bool t.2 (P[j].reach,P[j].hour)with
   |false=>rfl
   |true=>
    obtain⟨y,hy,e1,e2⟩:=h2 _ _ q;rw[<-alU j P,List.drop_eq_getElem_cons O]at hP;have:=(aln.1 hP).2.2 y hy P[j] alc;simp_all [plt,mD]
  have W:=E.i0;have hx2:=E.i1;have hx3:=E.h0;have hx4:=E.h1;have hx5:=E.l0;have hx6:=E.l1;unfold dJ;simp only[g,ew1,ew2];rw[V 0 ((d.reaches.length:Int) - 1) P[j].reach W (by omega),V 0 (d.hours - 1) P[j].hour hx3 (by omega),V 1 1073741824 P[j].dd hx5 hx6,X];refine⟨_,rfl,λa b=>?_,λa b q=>?_⟩;rw[alF O,Ha];unfold rch at hbb |-;simp only;rw[vb (k:=.aok),h (d.reaches.getD P[j].reach.toNat default).up P[j].hour,aA (by omega) (by omega)];grind
  grind [vb,List.take_succ_eq_append_getElem])
 rw[ak8,amw]at h;have e2:aj (gY { d:=d,c:=c} P t) P.length 0 ()=.inr ():=xW λj _ O=>by
  rw[ak8]at O;have g:P.getD j default=P[j]:=iC P default O;have E:=Y P[j] (alR O);have W:=E.i0;have hx2:=E.i1;have hx3:=E.h0;have hx4:=E.h1;have hx5:=E.l0;have hx6:=E.l1;have hx7:=E.w1;have hk:P[j].reach.toNat<d.reaches.length:=by omega
  have hdl:=kW hr hk;rw[alQ W]at hdl;have hw:i64.wrap (P[j].hour+(rch d P[j].reach).delay)=P[j].hour+(rch d P[j].reach).delay:=aA (by omega) (by omega);have hW:(jD (rch d P[j].reach) (i64.wrap (P[j].dd - 1))).1=wst (rch d P[j].reach) (P[j].dd - 1):=by
   rw[aA (by omega) (by omega),AR (hr.reach _ hk) (by omega) (by omega)]
  have hs:=E.s;have hw2:=E.w;unfold gY;grind
 simp_all [dK]
theorem Zw (r:aoz)(fr to:Int)(O:∀ x∈r.Y1,1<=x.dd/\x.dd<=1073741824)(hn:r.Y1.length<=1024):iY fr to r=eB (fv r.reach fr to) (r.Y1.map toG):=by
 obtain⟨v,e,h⟩:=jA (step:=lq fr to r) (λj v=>v=eB (fv r.reach fr to) ((r.Y1.take j).map toG)) r.Y1.length 0 0 rfl (λj v _ E h=>by
  rw[ak8]at E;have g:r.Y1.getD j default=r.Y1[j]:=iC _ default E;have V:=O _ (alR E);have X:=zz (p:=fv r.reach fr to) (l:=(r.Y1.take j).map toG) (λx V=>by
   obtain⟨z,W,rfl⟩:=al3.1 V;exact O z (alX W))
  rw[<-h,alY,al0]at X;have Y:(((min j r.Y1.length:Nat)):Int)<=1024:=by omega
  have ep:((r.Y1[j].reach==r.reach)&&ct r.Y1[j].hour fr to)=fv r.reach fr to (toG r.Y1[j]):=by
   unfold fv toG ct;grind
  unfold lq;rw[g,ep,alF E,amo,xB,<-h];simp only[alt,alM,eB];cases fv r.reach fr to (toG r.Y1[j])with
  |true=>
   grind [aA,toG]
  |false=>grind)
 simp_all [iY]
end
inductive Brk (d:ah)(c:List Claim)(S:List M1):T1->Prop
 |gate (h i:Nat) (f:T1):h<d.hours.toNat->i<d.reaches.length->f.kind=1->f.hour=h->f.index=i->(rch d i).cap<eB (fv i h h) (S.map toG)->Brk d c S f
 |ao7 (h i:Nat) (f:T1):h<d.hours.toNat->i<d.reaches.length->f.kind=3->f.hour=h->f.index=i->(rch d i).ao7<eB (fv i ((h:Int) - (rch d i).delay+1) h) (S.map toG)->Brk d c S f
 |aoE (f:T1):f.kind=4->f.hour=0->f.index=0->d.aoE.start<eB g0P (S.map toG)->Brk d c S f
 |late (f:T1):LF d c S f->Brk d c S f
variable {d:ah}{c:List Claim}
theorem Zx(E:apP d c)(hn:c.length<=60)(hm:Oc d c=false):Brk d c (aY { d:=d,c:=c}) (bG d c).1:=by
 obtain⟨⟨m,u,U,w,hL⟩,V⟩:=Js E;have hN:=E.nar;have hr:=hN.good.right;have hH1:=hr.apz;have hol:=E.outs.len;have hmul:d.reaches.length*d.hours.toNat<=1024:=by
  have:((d.reaches.length*d.hours.toNat:Nat):Int)=(d.reaches.length:Int)*d.hours:=by grind
  have:=E.wide;omega
 have h2:∀ f,(bU d c).2.1=f->(bG d c).1=f:=λf e=>e;rcases GM d (ay c)with⟨q,_⟩ | ⟨_,q,_⟩ | ⟨_,_,hx,e⟩ | ⟨_,_,W,hF,hlen,e⟩ | ⟨_,_,W,hG,e⟩;exact absurd ((vY _ _).2 hN) q;exact absurd E.outs.out q;have hl:=Tm (Zk hr hN.good.apC E.outs.out (by rw[e]) (by rw[e]));rw[h2 (jk (ay c) d) (by grind [bU,u7])];exact .late _ (hL.flt _ hl).1;have:=hF.len;grind
 rw[e]at V;have V:=V rfl;have hb:=(Jm hG.good.apC).1;simp only at V;have X:∀ p:Order->Bool,(∀ x:Order,x.aol=true->p x=false)->eB p (srt aL (ay c++W))=eB p ((aY { d:=d,c:=c}).map toG):=λp hp=>by
  rw[V,Te (AU _),xB,u4 λx hx=>hp x (E.outs.out x hx)];omega
 have O:∀ (i:Int) a b (x:Order),x.aol=true->fv i a b x=false:=λi a b x h=>by grind [fv]
 have Y:∀ x:Order,x.aol=true->g0P x=false:=λx h=>by grind [g0P]
 have hk:∀ f∈C8 d (srt aL (ay c++W)),Brk d c (aY { d:=d,c:=c}) f:=λf hf=>by
  unfold C8 bkH at hf;rcases alu.1 hf with hf|hf;obtain⟨h,h3,hf⟩:=amk.1 hf;obtain⟨i,h4,hf⟩:=amk.1 hf;rw[List.mem_range'_1]at h3 h4;unfold bkV at hf;rw[X _ (O _ _ _),X _ (O _ _ _)]at hf;rcases alu.1 hf with hf|hf;split at hf
  rw[alz.1 hf];exact .gate h i _ (by omega) (by omega) rfl rfl rfl (by assumption);cases hf;split at hf
  rw[alz.1 hf];exact .ao7 h i _ (by omega) (by omega) rfl rfl rfl (by assumption);cases hf;rw[X _ Y]at hf;split at hf
  rw[alz.1 hf];exact .aoE _ rfl rfl rfl (by assumption);cases hf
 cases hB:C8 d (srt aL (ay c++W))with
 |nil=>
  exfalso;have:bv d c=(srt aL (ay c++W),true,0):=by
   unfold bv bU;rw[u7 E];simp only[e,hb,hB];rfl
  grind
 |cons f L=>
  rw[h2 f (by unfold bU;rw[u7 E];simp only[e,hb,hB];rfl)];grind
theorem Da (p:aoG)(q:Claim->Bool):∀ {c:List Claim},(∀ a∈c,1<=a.dd)->fS p (c.filter q)<=fS p c
 | [],_=>alJ _
 |a::c,h=>by
  have O:=Da p q (c:=c) λb E=>h b (ak6 _ E);grind [fS]
theorem Of(h:apP d c)(q:Claim->Bool):apP d (c.filter q):=by
 obtain⟨h1,h2,Y,V⟩:=(kv d c).1 h.chk;have O:dI d (c.filter q)=0:=(kv d _).2 ⟨h1,ald (alT _ _) h2,λa E=>Y a (amC.1 E).1,V.filter _⟩;have hl:=(Qk h.chk).1;refine⟨O,h.wide,λx X=>?_⟩;obtain⟨e,e1⟩:=(outs (Ll O)).lit x X;have W:u6 (c.filter q) x.index x.hour<=u6 c x.index x.hour:=Da _ q λa E=>(hl a E).1;obtain⟨y,hy,e2,e3⟩:=h.outs.all x.index x.hour (by omega);have:=(h.outs.lit y hy).1;have:=h.lit y hy;grind
section
variable {d:ah}{c:List Claim}{S P:List M1}{f:T1}
theorem ah_ (hr:aoL d)(X:S.Pairwise plt)(hL:∀ x∈S,PS d c S x)(O:P.Sublist S)(hc:∀ z∈P,∀ y∈S,lnk d z y->y∈P):∀ x∈P,MP d c P x:=λx W=>by
 have h:=hL x (O.subset W);obtain⟨l1,l2,l3,l4,l5⟩:=h.lit hr;have V:x.reach.toNat<d.reaches.length:=by have:=h.i0;have:=h.i1;omega
 have E:=kW hr V;rw[alQ h.i0]at E;have Y:=(KI _ _).1 (hr.reach _ V);refine⟨h.i0,h.i1,h.h0,by have:=h.h1;omega,l1,l2,h.w1,?_,?_⟩;rw[t5,h.w,t5];congr 1
 refine(Bb O X λy hy q=>hc x W y hy ?_).symm;unfold oj toG at q;simp only[als,anv,amg,aml,akZ,beq_iff_eq]at q;exact⟨q.2,q.1⟩;grind
theorem Xk (hr:aoL d)(Y:S.Pairwise plt)(hL:∀ x∈S,PS d c S x)(hl:S.length<=1024)(V:P.Sublist S)(hd:∀ y∈S,bV y f d.reaches=true->y∈P){m:Mp}(hm:∀ a b,aq .aok .int m (a,b)=drw d (c.map toC++P.map toG) a b)(hB:Brk d c S f)(z:List Int):
  (0<=f.index/\f.index< (d.reaches.length:Int)/\0<=f.hour/\f.hour<d.hours)/\
  (f.kind=1/\ml { ai:=z,kind:=f.kind,reach:=f.index,hour:=f.hour,Y1:=P} { ai:=z,kind:=f.kind,reach:=f.index,hour:=f.hour,Y1:=P} (d.reaches.getD f.index.toNat default)=true\/
   f.kind=3/\mn { ai:=z,kind:=f.kind,reach:=f.index,hour:=f.hour,Y1:=P} { ai:=z,kind:=f.kind,reach:=f.index,hour:=f.hour,Y1:=P} (d.reaches.getD f.index.toNat default)=true\/
   f.kind=4/\mo { ai:=z,kind:=f.kind,reach:=f.index,hour:=f.hour,Y1:=P} { ai:=z,kind:=f.kind,reach:=f.index,hour:=f.hour,Y1:=P} d=true\/
   f.kind=7/\mq m { ai:=z,kind:=f.kind,reach:=f.index,hour:=f.hour,Y1:=P} (d.reaches.getD f.index.toNat default)=true):=by
 have h1R:=hr.one;have hH1:=hr.apz;have hH:=hr.hours;have hPl:∀ x∈P,1<=x.dd/\x.dd<=1073741824:=λx hx=>by have:=(hL x (V.subset hx)).lit hr;omega
 have NH:=λfr to=>Zw { ai:=z,kind:=f.kind,reach:=f.index,hour:=f.hour,Y1:=P} fr to hPl (ald V.length_le hl);have hSr:∀ y∈S,0<=y.hour/\y.hour<d.hours:=λy hy=>by
  have h:=hL y hy;have hk:y.reach.toNat<d.reaches.length:=by have:=h.i0;have:=h.i1;omega
  have E:=kW hr hk;rw[alQ h.i0]at E;have:=h.h0;have:=h.h1;omega
 cases hB with
 |gate h i _ hh hi O W X e4=>
  refine⟨by omega,.inl ⟨O,?_⟩⟩;unfold ml;rw[NH];simp only[X,W,ak1];rw[Bb V Y λy hy q=>hd y hy ?_];grind
  unfold fv toG at q;unfold bV;grind
 |ao7 h i _ hh hi O W X e4=>
  have E:=kW hr hi;refine⟨by omega,.inr (.inl ⟨O,?_⟩)⟩;unfold rch at E e4;rw[ak1]at E e4;unfold mn;rw[NH];simp only[X,W,ak1];rw[aA (n:=(h:Int) - (d.reaches.getD i default).delay) (by omega) (by omega),aA (by omega) (by omega)];rw[Bb V Y λy hy q=>hd y hy ?_];grind
  unfold fv toG at q;unfold bV;simp only[als,amg,akZ,beq_iff_eq,decide_eq_true_eq]at q;simp only[O,W,X];rw[q.1.1,ak1,aA (by omega) (by omega)];grind
 |aoE _ O W X e4=>
  refine⟨by omega,.inr (.inr (.inl ⟨O,?_⟩))⟩;unfold mo;rw[NH];simp only[X,W,BEq.rfl,amg];rw[Bb V Y λy hy q=>hd y hy ?_];refine decide_eq_true ?_;have:eB (fv 0 0 d.hours) (S.map toG)=eB g0P (S.map toG):=P9 λx hx=>by
   obtain⟨y,hy,rfl⟩:=al3.1 hx;have:=hSr y hy;unfold fv g0P toG;grind
  omega;simp_all [fv,toG,bV]
 |late _ h=>
  refine⟨⟨h.i0,h.i1,h.h0,h.h1⟩,.inr (.inr (.inr ⟨h.kind,?_⟩))⟩;have hn:aq .aok .int m (f.index,f.hour)=f.dd:=by
   rw[hm,h.w,t5,t5];congr 1
   refine Bb V Y λy hy q=>hd y hy ?_;unfold oj toG at q;unfold bV;simp only[als,anv,amg,aml,akZ,beq_iff_eq]at q;simp only[h.kind,show((7:Int) ==1)=false from rfl,show((7:Int) ==3)=false from rfl,show((7:Int) ==4)=false from rfl,cond_false,akZ,beq_iff_eq];omega
  have hw1:=h.w1;have hk:f.index.toNat<d.reaches.length:=by have:=h.i0;have:=h.i1;omega
  unfold mq;simp only[hn];rcases h.b with g|g;rcases yc (i:=(f.index.toNat:Int)) (by omega) (hr.reach _ hk) hw1 with⟨v,e,_⟩ | ⟨_,e⟩;grind
  have:=e 1073741824 (by omega) (alJ _);rw[AR (hr.reach _ hk) (by omega) (by omega),decide_eq_true (show f.dd > _ from this),aoj];grind
end
section
variable {d:ah}{l:List bn}{fr to k:Int}
theorem Tw (V:Opn d l fr to k)(hn:(aB d l fr to k).1.length<=60){z:List Int}(hz:z.Sublist (rts d (aB d l fr to k).1))(hm:Oc d (flt (aB d l fr to k).1 z)=false){f:T1}(hf:f=(bG d (flt (aB d l fr to k).1 z)).1){P:List M1}(hP:P=b9 { d:=d,c:=flt (aB d l fr to k).1 z} (aY { d:=d,c:=flt (aB d l fr to k).1 z}) f):
  dz d l fr to k { ai:=z,kind:=f.kind,reach:=f.index,hour:=f.hour,Y1:=P} =(true,0):=by
 have hc:=Cy d l fr to k;have X:=Of V.ask λx=>!bu x z;have hr:=A3 X.chk;have h64:=hr.reaches;have hH:=hr.hours;have hH1:=hr.apz;obtain⟨⟨m,u,U,w,E⟩,_⟩:=Js X;obtain⟨hlc,hln⟩:=Qk X.chk;have Y:=λx hx=>(E.one x hx).1;have hsr:∀ x∈aY { d:=d,c:=flt (aB d l fr to k).1 z},0<=x.reach/\x.reach< (d.reaches.length:Int)/\0<=x.hour/\x.hour<d.hours:=λx hx=>by
  have h:=Y x hx;have hk:x.reach.toNat<d.reaches.length:=by have:=h.i0;have:=h.i1;omega
  have hdl:=kW hr hk;rw[alQ h.i0]at hdl;exact⟨h.i0,h.i1,h.h0,by have:=h.h1;omega⟩
 obtain⟨O,b2,b3⟩:=Ih (c:=flt (aB d l fr to k).1 z) hr E.ord hsr E.len f;rw[<-hP]at O b2 b3;obtain⟨mm,e1,e2⟩:=Zv hr hlc hln (E.ord.sublist O) (ald O.length_le E.len) (ah_ hr E.ord Y O b3);obtain⟨⟨i0,i1,t0,t1⟩,hk⟩:=Xk hr E.ord Y E.len O b2 e2 (by rw[hf];exact Zx X (ald (alT _ _) hn) hm) z;have hl0:aj (dT d l fr to k { ai:=z,kind:=f.kind,reach:=f.index,hour:=f.hour,Y1:=P}) z.length 0 ()=.inr ():=xW λj _ W=>by
  rw[ak8]at W;have h10:(rts d (aB d l fr to k).1).length<=10:=by have:=V.ten;grind
  have hzl:=hz.length_le;have g:z.getD j 0=z[j]:=iC z 0 W;unfold dT;rw[xJ V,C_];simp only[g];rw[al4.2 ⟨z[j],hz.subset (alR W),by simp⟩];cases j with
  |zero=>rfl
  |succ j=>
   have g2:z.getD j 0=z[j]:=iC z 0 (by omega);rw[show i64.wrap (((j+1:Nat):Int) - 1)=(j:Int) by grind [aA],ak1,g2];have:=aly.1 ((Tu _).sublist hz) j (j+1) (by omega) W (by omega);grind
 have hwi:∀ a b n:Int,a<=n->n<=b->ct n a b=true:=λa b n h1 h2=>(v6 n a b).2 ⟨h1,h2⟩;have e3:da { d:=d,c:=(aB d l fr to k).1} z= { d:=d,c:=flt (aB d l fr to k).1 z}:=(vN { d:=d,c:=(aB d l fr to k).1} z hc).2;have hl1:aj (gm d l fr to k { ai:=z,kind:=f.kind,reach:=f.index,hour:=f.hour,Y1:=P}) 4 0 ()=.inl true:=by
  simp only[aj,gm,xJ V,e3,e1];rcases hk with⟨a,b⟩ | ⟨a,b⟩ | ⟨a,b⟩ | ⟨a,b⟩;all_goals
   rw[b];simp only[a];rfl
 grind [dz,xJ,aA]
theorem Xl:v9 { ai:=[],kind:=0,reach:=0,hour:=0,Y1:=[]} { ai:=[],kind:=0,reach:=0,hour:=0,Y1:=[]} =true:=by rfl
theorem Tx:pg { ai:=[],kind:=0,reach:=0,hour:=0,Y1:=[]} { ai:=[],kind:=0,reach:=0,hour:=0,Y1:=[]}:=λ_=>⟨trivial,λ_ _ _ _=>by intro;trivial⟩
theorem Tz (E:Opn d l fr to k)(h:qg d l fr to k=true):(aB d l fr to k).1.length<=60:=by
 have e:mc d l fr to k=aB d l fr to k:=(adi d l fr to k).2.trans (GA d l fr to k).2.symm;unfold qg at h;rw[e,E.err]at h;grind
theorem Jt:((cS d l fr to k).1= { ai:=[],kind:=0,reach:=0,hour:=0,Y1:=[]}/\(cS d l fr to k).2.1=false/\((cS d l fr to k).2.2=0->Opn d l fr to k/\Oc d (aB d l fr to k).1=true))\/
  ((cS d l fr to k).2=(true,0)/\Opn d l fr to k/\Oc d (aB d l fr to k).1=false/\((aB d l fr to k).1.length<=60->dz d l fr to k (cS d l fr to k).1=(true,0))):=by
 by_cases V:(aI d l fr to k).2=0
 have E:=(Lr d l fr to k).1 V;unfold cS;rw[xJ E];simp only[bne_self_eq_false,cond_false];cases O:(bv d (aB d l fr to k).1).2.1 with
 |true=>grind
 |false=>
  obtain⟨A,z,B,h1,h2,W,e⟩:=RM E O;rw[e];exact .inr ⟨rfl,E,O,λhn=>Tw E hn (Oa.1 (by rw[h1];simp)) W rfl rfl⟩
 grind [cS]
end
theorem Ql (a0:ah)(a1:List bn)(E O V:Int)(_: -9223372036854775808<=E/\E<=9223372036854775807)(_: -9223372036854775808<=O/\O<=9223372036854775807)(_: -9223372036854775808<=V/\V<=9223372036854775807):i6 a0 a1 E O V=true:=by
 unfold i6;rw[Xd];simp only[alj,cond_false];cases Y:qg a0 a1 E O V with
 |false=>rfl
 |true=>
  simp only[alj,cond_false];rcases Jt (d:=a0) (l:=a1) (fr:=E) (to:=O) (k:=V)with⟨h1,h2,h3⟩ | ⟨h1,W,X,h2⟩;rw[h1,h2,Xl];cases q:(cS a0 a1 E O V).2.2 !=0 with
  |true=>rfl
  |false=>
   obtain⟨W,X⟩:=h3 (by simpa using q);rw[W.err,Xf X,show(bv a0 (aB a0 a1 E O V).1).2.1=true from X];rfl
  have hs:=(Cz a0 (aB a0 a1 E O V).1).2 ⟨W.ask,W.plan⟩;rw[h1,h2 (Tz W Y),W.err,show(bv a0 (aB a0 a1 E O V).1).2.1=false from X,show(bv a0 (aB a0 a1 E O V).1).2.2=0 from hs];rfl
theorem Qm (a0:ah)(a1:List bn)(E O V:Int)(_: -9223372036854775808<=E/\E<=9223372036854775807)(_: -9223372036854775808<=O/\O<=9223372036854775807)(_: -9223372036854775808<=V/\V<=9223372036854775807):jG a0 a1 E O V:=by
 have W:(!(cS a0 a1 E O V).2.1)=true->pg (cS a0 a1 E O V).1 { ai:=[],kind:=0,reach:=0,hour:=0,Y1:=[]}:=λh=>by
  rcases Jt (d:=a0) (l:=a1) (fr:=E) (to:=O) (k:=V)with⟨h1,_⟩ | ⟨h1,_⟩;rw[h1];exact Tx;grind
 exact⟨Xh,λ_=>⟨Zs _ _ _ _ _,λ_=>⟨Xg _ _ _ _ _,λ_ h=>W h,λ_=>⟨(GA _ _ _ _ _).1,Lm _ _,λ_=>⟨W,λ_=>A9 _ _ _ _ _ _⟩⟩⟩⟩⟩
end Go.Sx
end
section
namespace Go.Sx
open Go.Deep Go.RowKit
section
variable {F:Nat->Prop}{own:Own}{w:World}
def RC (F:Nat->Prop)(own:Own)(w:World)(ks:List Kd)(cs:List Value):Prop:=
 ∃ l:List SV,ul ks l=true/\l.length=cs.length/\∀ (j:Nat) (s:SV) (v:Value),l[j]? =some s->cs[j]? =some v->Rel F own w s v
theorem Og:∀ {a b:List Kd} {l m:List SV},ul a l=true->ul b m=true->ul (a++b) (l++m)=true
 | [],b,l,m,h1,h2=>by grind [uz]
 |k::a,b,l,m,h1,h2=>by
  obtain⟨x,r,rfl,E,O⟩:=pw h1;simp only[alr,ul,E,Og O h2,Bool.and_self]
theorem RC.nil:RC F own w [] []:=⟨[],rfl,rfl,λj s v h=>by cases h⟩
theorem RC.app {a b:List Kd}{c d:List Value}(h1:RC F own w a c)(h2:RC F own w b d):RC F own w (a++b) (c++d):=by
 obtain⟨l,V,W,r1⟩:=h1;obtain⟨m,E,O,X⟩:=h2;refine⟨l++m,Og V E,by simp[W,O],λj s v Y hv=>?_⟩;grind
theorem RC.one {k:Kd}{s:SV}{v:Value}(h1:fit k s=true)(h2:Rel F own w s v):RC F own w [k] [v]:=
 ⟨[s],by simp[ul,h1],rfl,λj s' V O E=>by
  grind⟩
end
def ado:Kd->Kd->Bool
 | .s,.s=>true| .b,.b=>true| .n a,.n b=>decide (a=b)| .r a,.r b=>decide (a=b)| .m a c,.m b d=>decide (a=b)&&decide (c=d)|_,_=>false
theorem Zy:∀ {a b:Kd},ado a b=true->a=b:=by
 intro a b h;cases a <;>cases b <;>simp_all [ado]
def Xm:List Kd->List Kd->Bool
 | [],[] =>true|a::l,b::m=>ado a b&&Xm l m|_,_=>false
theorem RN:∀ {a b:List Kd},Xm a b=true->a=b
 | [],[],_=>rfl
 |a::l,b::m,h=>by
  simp only[Xm,akZ]at h;rw[Zy h.1,RN h.2]
def Hg (P:Program)(g:TypeId->Option (List Kd)):List Field->Nat->Nat->Option (List Kd)
 | [],off,tot=>bif Nat.beq off tot then some []else none
 |f::r,off,tot=>match g f.type with
  |some a=>bif Nat.beq f.offset off&&Nat.beq a.length (P.cellsOf f.type)then(Hg P g r (off+a.length) tot).map (a++ ·)else none|none=>none
def Qn (a:List Kd):Nat->List Kd
 |0=>[]|n+1=>a++Qn a n
def Hh (P:Program):Nat->TypeId->Option (List Kd)
 |0,_=>none
 |n+1,t=>match P.underlying t with
  |some .bool=>some [.b]|some (.int k) =>some [.n k]|some .string=>some [.s]
  |some (.slice e) =>match LM P e,Hh P n e with
   |some k,some ks=>bif Xm ks (et k)&&Nat.beq (P.cellsOf e) (aa k)&&Nat.ble 1 (aa k)then some [.r k]else none|_,_=>none
  |some (.struct fs) =>Hg P (Hh P n) fs.toList 0 (P.cellsOf t)
  |some (.array m e) =>match Hh P n e with
   |some a=>bif Nat.beq a.length (P.cellsOf e)&&Nat.beq (P.cellsOf t) (m*a.length)then some (Qn a m)else none|none=>none
  |_=>none
section
variable {H:Type}{enc:TypeId×Value->H}{P:Program}{F:Nat->Prop}{own:Own}{w:World}{base:Nat}{spare:Nat->Bool}{held:Bool}{S:DataW H->Prop}
theorem RO {g:TypeId->Option (List Kd)}(hg:∀ t ks,g t=some ks->∀ (E:Nat) (cs:List Value) (x:DataW H×List MemPlace),DataW.trod enc P w base spare held E t cs=some x->S x.1->RC F own w ks cs)
  (E:Nat) (cs:List Value):∀ (fs:List Field) (off:Nat) (ks:List Kd),Hg P g fs off cs.length=some ks->(∀ f∈fs,∃ x,DataW.trod enc P w base spare held E f.type ((cs.drop f.offset).take (P.cellsOf f.type))=some x/\S x.1)->RC F own w ks (cs.drop off)
 | [],off,ks,h,_=>by
  unfold Hg at h;cases O:Nat.beq off cs.length with
  |false=>grind
  |true=>
   rw[O]at h;have:off=cs.length:=ak0 O;subst this;cases h;rw[anL];exact RC.nil
 |f::r,off,ks,h,hx=>by
  unfold Hg at h;cases Y:g f.type with
  |none=>grind
  |some a=>
   rw[Y]at h;dsimp only at h;cases O:Nat.beq f.offset off&&Nat.beq a.length (P.cellsOf f.type)with
   |false=>grind
   |true=>
    rw[O]at h;simp only[cond_true,ami]at h;obtain⟨W,h2,rfl⟩:=h;rw[akZ]at O;have e1:f.offset=off:=ak0 O.1;have e2:a.length=P.cellsOf f.type:=ak0 O.2;obtain⟨x,V,X⟩:=hx f (by simp);have h3:=hg _ _ Y _ _ _ V X;have h4:=RO hg E cs r (off+a.length) W h2 λf hf=>hx f (by simp[hf]);have:=h3.app h4;grind [List.drop_drop,List.take_append_drop]
theorem RP {e:TypeId}{a:List Kd}(W:∀ (E:Nat) (cs:List Value) (x:DataW H×List MemPlace),DataW.trod enc P w base spare held E e cs=some x->S x.1->RC F own w a cs)
  (E:Nat):∀ (m:Nat) (cs:List Value),cs.length=m*a.length->(∀ i,i<m->∃ x,DataW.trod enc P w base spare held E e ((cs.drop (i*a.length)).take a.length)=some x/\S x.1)->RC F own w (Qn a m) cs
 |0,cs,h,_=>by
  have:cs=[]:=by simpa using h
  subst this;exact RC.nil
 |m+1,cs,h,hx=>by
  obtain⟨x,O,V⟩:=hx 0 (by omega);rw[Nat.zero_mul,List.drop_zero]at O;have Y:=W _ _ _ O V;have X:=RP W E m (cs.drop a.length) (by grind) λi hi=>by
   grind [List.drop_drop]
  have:=Y.app X
  rwa[alU]at this
structure Small (S:DataW H->Prop):Prop where
 agg:∀ l,S (.agg l)->∀ d∈l,S d
 slice:∀ l m,S (.slice l m)->l.length<=aN/\∀ d∈l,S d
theorem tw (hS:Small S)(O:∀ b,¬dg F own b):∀ (n:Nat) (t:TypeId) (ks:List Kd),Hh P n t=some ks->∀ (fuel:Nat) (cs:List Value) (x:DataW H×List MemPlace),DataW.trod enc P w base spare held fuel t cs=some x->S x.1->RC F own w ks cs
 |0,_,_,h,_,_,_,_,_=>by cases h
 |n+1,t,ks,h,fuel,cs,x,hx,hs=>by
  unfold Hh at h;split at h
  rename_i W;cases h;obtain⟨b,rfl,rfl⟩:=DataW.trod_bool W hx;exact RC.one (s:=.v (.bool b)) rfl (.v _);rename_i k W;cases h;obtain⟨m,rfl,rfl,_⟩:=DataW.trod_int W hx;exact RC.one (s:=.v (.int k m)) (by simp[fit]) (.v _);rename_i W;cases h;obtain⟨b,rfl,rfl,_⟩:=DataW.trod_string W hx;exact RC.one (s:=.v (.string b)) rfl (.v _)
  ·rename_i e W;split at h
   ·rename_i k ks2 hk hks;cases V:Xm ks2 (et k)&&Nat.beq (P.cellsOf e) (aa k)&&Nat.ble 1 (aa k)with
    |false=>rw[V]at h;cases h
    |true=>
     rw[V]at h;cases h;simp only[akZ]at V;have e1:=RN V.1.1;have e2:P.cellsOf e=aa k:=ak0 V.1.2;have e3:1<=aa k:=nbl V.2;subst e1;rcases open_slice W hx with⟨rfl,rfl⟩ | ⟨a,len,cap,m,f2,D,Pl,rfl,hb1,hl,hm,hmm,rfl,hel⟩;exact RC.one (s:=.rs k []) (by simp[fit]) .rs0
     ·have hlm:len<=m:=by subst hmm;split <;>omega
      obtain⟨hs1,hs2⟩:=hS.slice _ _ hs;simp only[alY,amD]at hs1;have helt:∀ i,i<len->∃ E,E.length=aa k/\(∀ j v,E[j]? =some v->w.cell? ((a.add (i*aa k)).add j)=some v)/\RC F own w (et k) E:=λi hi=>by
       obtain⟨E,h1,h2⟩:=hel i (by omega);have h3:=tw hS O n e (et k) hks f2 E _ h2 (hs2 _ (amF (amy.2 hi)));unfold World.cells? at h1;split at h1
       refine⟨E,by rw[mapM_some_length h1,amD,e2],λj v Y=>?_,h3⟩;have hlt:j<P.cellsOf e:=by
        have:=(ak4.1 Y).1
        rwa[mapM_some_length h1,amD]at this
       have:=mapM_some_get h1 j j (by simp[hlt]);rw[e2]at this;rw[this,Y];cases h1
      by_cases h0:len=0
      subst h0;exact RC.one (s:=.rs k []) (by simp[fit]) .rs0
      ·have hsp:a.spot=none:=by
        obtain⟨E,h1,h2,_⟩:=helt 0 (by omega);have:=h2 0 (E[0]'(by omega)) (by rw[alb]);rw[Nat.zero_mul]at this;simp only[Addr.add,if_true]at this;unfold World.cell? at this;split at this
        cases hsp:a.spot with
        |none=>rfl|some q=>rw[hsp]at this;simp at this
        cases this
       obtain⟨ab,ao,asp⟩:=a;dsimp only at hsp;subst hsp
       haveI:Inhabited k.T:=⟨eG k⟩
       obtain⟨X,hX⟩:=choose_lt (p:=λi (x:k.T) =>∀ (j:Nat) (s:SV),(cellsOf k x)[j]? =some s->∃ v,w.cell? ⟨ab,ao+i*aa k+j,none⟩=some v/\Rel F own w s v) (n:=len) λi hi=>by
        obtain⟨E,h1,h2,l,h3,h4,h5⟩:=helt i hi;refine⟨mkE k l,λj s Y=>?_⟩;rw[qH (k:=k) (l:=l) (x:=mkE k l) (by unfold wb;rw[h3];rfl)]at Y;have hlt:j<E.length:=by
         have:=(ak4.1 Y).1;omega
        refine⟨E[j],?_,h5 j s _ Y (alb hlt)⟩;have:=h2 j E[j] (alb hlt);have hadd:∀ p q,((⟨ab,ao,none⟩:Addr).add p).add q=⟨ab,ao+p+q,none⟩:=λp q=>by
         unfold Addr.add;by_cases hp:p=0 <;>by_cases hq:q=0 <;>simp[hp,hq]
        rwa[hadd]at this
       have hL:((List.range len).map X).length=len:=by simp
       refine RC.one (s:=.rs k ((List.range len).map X)) (by simp[fit]) ?_;have hget:∀ (i:Nat) (x:k.T),((List.range len).map X)[i]? =some x->i<len/\x=X i:=λi x hi=>by
        obtain⟨h1,h2⟩:=ak4.1 hi;rw[hL]at h1;simp only[List.getElem_map,List.getElem_range]at h2;subst h2;exact⟨h1,rfl⟩
       have:=Rel.rs (F:=F) (own:=own) (w:=w) (k:=k) (l:=(List.range len).map X) (b:=ab) (o:=ao) (cap:=cap) (λi j=>(w.cell? ⟨ab,ao+i*aa k+j,none⟩).getD undef) (by rw[hL];exact hl) (by rw[hL];exact hs1)
        (λi x hi j s Y=>by
         obtain⟨h1,rfl⟩:=hget i x hi;obtain⟨v,h2,_⟩:=hX i h1 j s Y;exact⟨O _,by rw[h2];rfl⟩)
        (λi x hi j s Y=>by
         obtain⟨h1,rfl⟩:=hget i x hi;obtain⟨v,h2,h3⟩:=hX i h1 j s Y;rw[h2];exact h3)
       rwa[hL]at this
   cases h
  rename_i fs W;obtain⟨xs,m,rfl,rfl,hl,hlen,hf⟩:=DataW.trod_struct W hx;rw[<-hl]at h;have:=RO (tw hS O n) m cs fs.toList 0 ks h λf hfm=>by
   obtain⟨i,hi,rfl⟩:=alI hfm;have hi':i<fs.size:=by simpa using hi
   have h1:=hf i fs[i] (by simp[hi']);rw[alb (by omega)]at h1;refine⟨_,by simpa using h1,hS.agg _ hs _ (amF (alR _))⟩
  simpa using this;rename_i m e W;split at h
  rename_i a ha;cases V:Nat.beq a.length (P.cellsOf e)&&Nat.beq (P.cellsOf t) (m*a.length)with
  |false=>rw[V]at h;cases h
  |true=>
   rw[V]at h;cases h;rw[akZ]at V;have e1:a.length=P.cellsOf e:=ak0 V.1;have e2:P.cellsOf t=m*a.length:=ak0 V.2;obtain⟨xs,f2,rfl,rfl,hl,hlen,hf⟩:=DataW.trod_array W hx;refine RP (tw hS O n e a ha) f2 m cs (by rw[hl,e2]) λi hi=>?_;have h1:=hf i hi;rw[alb (by omega),<-e1]at h1;exact⟨_,h1,hS.agg _ hs _ (amF (alR _))⟩
  cases h;cases h
end
end Go.Sx
end
section
namespace Go.Sx
open Go.Proofs
section
variable {F:Nat->Prop}{own:Own}{w:World}
theorem Zz {k:Tag}{cs:Array Value}(h:RC F own w (et k) cs.toList):∃ x:k.T,Rel F own w (.agg (cellsOf k x)) (.agg cs):=by
 obtain⟨l,V,E,W⟩:=h;refine⟨mkE k l,?_⟩;rw[qH (k:=k) (l:=l) (x:=mkE k l) (by unfold wb;rw[V];rfl)];refine .agg (by simpa using E.symm) λj s O=>?_;have hlt:j<cs.size:=by
  have:=(ak4.1 O).1;simpa[E]using this
 exact W j s _ O (by simp[Array.getD,hlt])
theorem adp {k:Tag}{v:Value}(h:RC F own w [.r k] [v]):∃ l:List k.T,Rel F own w (.rs k l) v:=by
 obtain⟨l,W,X,O⟩:=h;obtain⟨x,r,rfl,E,Y⟩:=pw W;have V:=O 0 x v rfl rfl;cases x with
 |rs k' l'=>
  have:k=k':=by
   simp only[fit]at E;exact uv E
  subst this;exact⟨l',V⟩
 |_=>simp[fit]at E
end
end Go.Sx
end
section
namespace Go.Sx
open Go.ChangeShapes Go.RowKit Go.WideShapes
section
variable {H:Type}{enc:TypeId×Value->H}{P:Program}
def ZA (P:Program):List TypeId->Bool
 | [] =>true|t::r=>P.readableRec t&&Nat.blt t P.types.size&&ZA P r
theorem Ju (hl:laidOutB P=true){W Y:World}(X:Below W.heap.size W Y):∀ {ts:List TypeId} {vs:List Value} {ds:List (DataW H)} {E:List MemPlace},ZA P ts=true->
  DataW.TrodAll enc P W 0 (λ_=>true) true ts vs ds E->(∀ x∈E,x.block<W.heap.size)->DataW.TrodAll enc P Y 0 (λb=>decide (b<W.heap.size)) true ts vs ds E
 | [],vs,ds,E,_,h,_=>by
  obtain⟨rfl,rfl,rfl⟩:=trodAll_nil h;exact trodAll_mk0
 |t::ts,vs,ds,E,O,h,hlt=>by
  unfold ZA at O;rw[akZ,akZ]at O;obtain⟨v,vs',d,ds',p,q,rfl,rfl,rfl,h1,h2⟩:=trodAll_cons h;refine trodAll_cons_mk (WideElems.Trod_stays hl O.1.1 (by simpa[Nat.blt_eq]using O.1.2) h1 (λx V=>X.same (hlt x (ani _ V))) (λx V=>by simpa using hlt x (ani _ V))) ?_;exact Ju hl X O.2 h2 λx V=>hlt x (amM _ V)
theorem Xn (hl:laidOutB P=true){f:Func}{s:ChangeSpec}{W W':World}{args:Array Value}{ds O:List (DataW H)}{E:List MemPlace}{t:TypeId}
  (hk:ZA P f.params.toList=true) (Y:DataW.Whole enc P f.params.toList s.vars false W args.toList ds O E)
  (hr:f.resultTypes= #[t]) (ht:P.underlying t=some .bool) (hv:s.vars=[]) (h1:(s.fn H (ds++O)).results=[.lit (.bool true)]) (h2:(s.fn H (ds++O)).args=ds) (h3:(s.fn H (ds++O)).vars=[])
  (hg:Below W.heap.size W W'):s.post enc P f false true false false W args (.bool true) W':=by
 have hlt:=Y.lt;have X:=Y;obtain⟨p,q,hA,hV,rfl,_,_⟩:=Y;rw[hv]at hV;obtain⟨rfl,rfl⟩:=trodVars_none hV;refine⟨ds,[],p++[],[],p,[],X,?_,?_,?_,?_,λh=>by cases h⟩;rw[h1,hr];exact trodAll_cons_mk (shut_bool ht _) trodAll_mk0;rw[h2];exact Ju hl hg hk hA λx V=>hlt x (by simpa using V);rw[h3,hv];rfl;exact World.keptBut_mono (λx V=>⟨V,.inr (.inl (by simpa using V))⟩) (hg.frame (· ∈p++[]))
end
end Go.Sx
end
section
namespace Go.Proofs.YtaikmgjfkejlkaaGreat.bulks
variable {H:Type}
theorem one_le(d:DataW H):1<=Rows.uptoBulk d:=by
 cases d with
 |lit l=>cases l <;>simp[Rows.uptoBulk]|nil=>simp[Rows.uptoBulk]|ptr d=>simp[Rows.uptoBulk]|slice rG spare=>simp[Rows.uptoBulk]|agg O=>simp[Rows.uptoBulk]|iface t d=>simp[Rows.uptoBulk]|map E=>simp[Rows.uptoBulk]|held h=>simp[Rows.uptoBulk]
variable {l:List (DataW H)}
theorem aqn{d:DataW H}(h:d∈l):Rows.uptoBulk d<=Rows.uptoBulkAll l:=by
 induction l with
 |nil=>cases h
 |cons x r E=>
  simp only[Rows.uptoBulkAll];cases List.mem_cons.1 h with
  |inl e=>subst e;omega|inr e=>have:=E e;omega
theorem append(l r:List (DataW H)):Rows.uptoBulkAll (l++r)=Rows.uptoBulkAll l+Rows.uptoBulkAll r:=by
 induction l with
 |nil=>simp[Rows.uptoBulkAll]|cons x l E=>simp only[List.cons_append,Rows.uptoBulkAll,E];omega
theorem length_le(l:List (DataW H)):l.length<=Rows.uptoBulkAll l:=by
 induction l with
 |nil=>simp[Rows.uptoBulkAll]|cons x r E=>have:=one_le x;simp only[Rows.uptoBulkAll,List.length_cons];omega
theorem aqu(rG spare:List (DataW H)):rG.length+spare.length+1<=Rows.uptoBulk (.slice rG spare):=by
 have h1:=length_le rG;have h2:=length_le spare;simp only[Rows.uptoBulk];omega
theorem aqc(rG spare:List (DataW H)):Rows.uptoBulkAll rG+1<=Rows.uptoBulk (.slice rG spare):=by
 simp only[Rows.uptoBulk];omega
theorem bound(E:Rows.uptoSmall H l=true):Rows.uptoBulkAll l<=1048576:=by
 simpa[Rows.uptoSmall]using E
theorem room {n b:Nat}(hn:n<=2097152)(E:b<=4096):(n+n / 4+192)*b<=281474976710656:=by
 have h:(n+n / 4+192)*b<=2621632*4096:=Nat.mul_le_mul (by omega) E;omega
end Go.Proofs.YtaikmgjfkejlkaaGreat.bulks
end
