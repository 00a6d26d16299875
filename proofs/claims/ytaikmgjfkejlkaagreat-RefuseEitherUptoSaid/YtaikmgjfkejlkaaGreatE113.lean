/- Part of the proof that the law RefuseEither returns true and leaves its arguments as they were, for all arguments of bulk at most 1048576 (the Upto form). -/
import Derived.Test.YtaikmgjfkejlkaaGreatE112
import Derived.Test.YtaikmgjfkejlkaaGreatE108
import Derived.Test.YtaikmgjfkejlkaaGreatE107
import Derived.Test.YtaikmgjfkejlkaaGreatE109
import Derived.Test.YtaikmgjfkejlkaaGreatE110
set_option linter.all false
set_option maxHeartbeats 4000000
set_option maxRecDepth 100000
section
namespace Go.Sx
open Go.Proofs
open IntKind (i64)
@[go_sem] def bT (a0:ah)(a1:List Order)(k_0:Nat)(x4:List ((Int×Int)×Int)):Unit⊕(List ((Int×Int)×Int)):=letI q1:=a1.getD k_0 default;letI q0:=((a0.zs.getD (Int.toNat (q1.index)) default).reach,q1.hour);(bif(!q1.aol)then .inl ()else .inr (cH .aok .int x4 q0 (i64.wrap ((aq .aok .int x4 q0)+q1.dd))))
def jE (a0:ah)(a1:List Order)(k_0:Nat)(x4:List ((Int×Int)×Int)):Prop:=((!(a1.getD k_0 default).aol)=false->(0<=(a1.getD k_0 default).index/\(a1.getD k_0 default).index< (a0.zs.length:Int)))
@[go_sem] def aF (a0:ah)(z_1:Int×Int)(s_1:List Order×List ((Int×Int)×Int)):(List ((Int×Int)×Int))⊕(List Order×List ((Int×Int)×Int)):=letI q0:=a0.reaches.getD (Int.toNat z_1.1) default;letI q2:=i64.wrap (z_1.2 - q0.delay);letI q3:=aq .aok .int s_1.2 (z_1.1,z_1.2);letI q1:=ax q0 q3;(bif(q3==0)then .inr (s_1.1,s_1.2)else(bif((!q1.2) ||(decide (z_1.2<q0.delay)))then .inl s_1.2 else .inr ((s_1.1++([({ hour:=q2,index:=z_1.1,dd:=q1.1,aol:=false}:Order)])),(cH .aok .int s_1.2 (q0.up,q2) (i64.wrap ((aq .aok .int s_1.2 (q0.up,q2))+q1.1))))))
def ik (a0:ah)(z_1:Int×Int)(s_1:List Order×List ((Int×Int)×Int)):Prop:=letI q0:=a0.reaches.getD (Int.toNat z_1.1) default;letI q1:=aq .aok .int s_1.2 (z_1.1,z_1.2);letI q2:=ax q0 q1;((q1==0)=false->((0<=z_1.1/\z_1.1< (a0.reaches.length:Int))/\((mI q0 q1)/\(((!q2.2) ||(decide (z_1.2<q0.delay)))=false->((s_1.1++([({ hour:=(i64.wrap (z_1.2 - q0.delay)),index:=z_1.1,dd:=q2.1,aol:=false}:Order)])).length*32<=d8)))))
def aO (a0:ah)(a1:List Order):List Order×Bool×Int:=letI q0:=dX a0 a1;(bif(q0 !=0)then([],false,q0)else(match aj (bT a0 a1) a1.length 0 ([])with| .inl u0=>([],false,220) | .inr x4=>(match cB (aF a0) (cO a0) (a1,x4)with| .inl ape=>([],false,0) | .inr s_1=>(bif(decide ((s_1.1.length:Int) > 4096))then([],false,2)else((srt aL s_1.1),true,0)))))
def pa (a0:ah)(a1:List Order):Prop:=letI q0:=bT a0 a1;letI q1:=aF a0;letI q2:=cO a0;((mJ a0 a1)/\(((dX a0 a1) !=0)=false->(a1.length<=aN->(okI q0 (jE a0 a1) a1.length 0 ([])/\(∀ x4,aj q0 a1.length 0 ([])=.inr x4->((a1.length*32<=d8)/\((a0.hours<9223372036854775808)/\okL q1 (ik a0) q2 (a1,x4)/\(∀ s_1,cB q1 q2 (a1,x4)=.inr s_1->(s_1.1.length<=aN->((decide ((s_1.1.length:Int) > 4096))=false->(apart aL s_1.1)))))))))))
@[go_sem] def GK:List SV->Option Con:=(pD .al λa0=>(pR .order λa1=>(pE (.det (pa a0 a1) (.tup [.rs .order ((aO a0 a1).1),.v (.bool ((aO a0 a1).2.1)),.v (.int .i64 ((aO a0 a1).2.2))])))))
variable {p:Prop}
theorem ahK(h:p:=by simp only[go_sem,e1_0,e1_1,e1_2,e1_3,e1_4,e1_5]):p:=h
variable {l0 l1:List Nat}
theorem ahL(a0:JL l0)(a1:JL l1)(h:JL l0->JL l1->p:=by intro ja jb;simp only[go_sem,mB,ga,aF,psT,Fh,alr,ak_];all_goals exact gw ja jb):p:=h a0 a1
theorem aat(a0:JL l0)(a1:JL l1)(h:JL l0->JL l1->p:=by intro ja jb;simp only[go_sem,mB,ga];all_goals exact gw ja jb):p:=h a0 a1
theorem ahM(h:p:=by simp only[go_sem,mB,ga];all_goals exact cl3):p:=h
theorem DM:P1 Tryz.prog 109 GK:=by
 have hG:=mG (cn [.st .al,.sl .order] AP (cn [.sl .order] Dh (cn [.st .al] Ap (cp AO (cp tf W2))))) (co C6 W2);refine fN hG Tryz.f109 [.sl .order,.o,.o] (az λa0=>(bM λa1=>(am (λhp=>?_))));dsimp only[an]at hp;unfold pa at hp;refine⟨nbl rfl,(λid st=>bif Nat.beq id 0 then some (LCR (ρ:=Unit) (σ:=(List ((Int×Int)×Int))) 6 [] [0,1,2,3,4,5] (λX V=>⟨[(1,.rs .order a1),(2,.ptr 0 0),(4,.ptr 1 0),(5,.ptr 2 0),(6,.ptr 3 0),(7,.ptr 5 0),(23,.rs .order a1),(24,.v (.int .i64 (a1.length:Int))),(25,.v (.int .i64 (X:Int)))],[.cells (cellsOf .al a0),.cells [.v (.slice none 0 0)],.cells [.v (.bool false)],.cells [.v (.int .i64 (dX a0 a1))],.mp .aok .int V none,.cells [.os 4]]⟩) (bT a0 a1) (jE a0 a1) a1.length ([]) (a1.length<=aN) (λ_=>.ret) (λu0=>⟨[(4,.ptr 1 0),(5,.ptr 2 0),(6,.ptr 3 0)],[.dead,.cells [.v (.slice none 0 0)],.cells [.v (.bool false)],.cells [.v (.int .i64 220)],.dead,.dead]⟩) st)else bif Nat.beq id 2 then some (LC (ρ:=List ((Int×Int)×Int)) (σ:=List Order×List ((Int×Int)×Int)) (lk 2 st.t=.ptr 0 0/\lk 4 st.t=.ptr 1 0/\lk 5 st.t=.ptr 2 0/\lk 6 st.t=.ptr 3 0/\lk 7 st.t=.ptr 5 0/\lk 53 st.t=.fn 245 [] [.ep (cellsOf .al a0) 0]/\st.h=[.cells (cellsOf .al a0),.cells [.os 6],.cells [.v (.bool false)],.cells [.v (.int .i64 (dX a0 a1))],.mp .aok .int (cy (aj (bT a0 a1) a1.length 0 ([]))) none,.cells [.os 4],.row .order a1]/\a0.hours<9223372036854775808/\okL (aF a0) (ik a0) (cO a0) (a1,(cy (aj (bT a0 a1) a1.length 0 ([]))))) (cB (aF a0) (cO a0) (a1,(cy (aj (bT a0 a1) a1.length 0 ([]))))) (λ_=>.ret) (λE=>⟨[(2,.ptr 0 0),(4,.ptr 1 0),(5,.ptr 2 0),(6,.ptr 3 0),(7,.ptr 5 0)],[.cells (cellsOf .al a0),.cells [.v (.slice none 0 0)],.cells [.v (.bool false)],.cells [.v (.int .i64 0)],.mp .aok .int E none,.cells [.os 4],.dead,.dead]⟩) (λO=>⟨[(2,.ptr 0 0),(4,.ptr 1 0),(5,.ptr 2 0),(6,.ptr 3 0),(7,.ptr 5 0)],[.cells (cellsOf .al a0),.cells [.os 7],.cells [.v (.bool false)],.cells [.v (.int .i64 (dX a0 a1))],.mp .aok .int O.2 none,.cells [.os 4],.dead,.row .order O.1]⟩))else none),?_,?_⟩
 ·unfold ae Tryz.f109;simp only[ak,true_and,and_true];refine⟨?_,?_⟩;refine b_ mixed aJ hG kr (λ_=>rfl) (a1.length:Int) rfl fH (λhb0 X V apq Y hw hc=>⟨L0,ag _,?_⟩) (λhb0 V hc=>?_);unfold jE at Y;try simp only[hw,ak1]at Y
  exact bE (jl [0,1,2,3,4,5]);exact bF (jl [0,1,2,3,4,5])
  ·refine sb mixed aJ hG (by decide) (by decide) kr kr λst lc hC hp=>?_;simp only[go_sem,Nat.reduceBEq,ak3]at hC;subst hC;obtain⟨t,h⟩:=st;dsimp only[LC]at hp;obtain⟨e1_0,e1_1,e1_2,e1_3,e1_4,e1_5,rfl,hb1,W⟩:=hp;refine⟨245,[.ep (cellsOf .al a0) 0],Int×Int,_,_,(cO a0),Fh,(aF a0),(ik a0),_,(a1,(cy (aj (bT a0 a1) a1.length 0 ([])))),_,_,_,[(2,.ptr 0 0),(4,.ptr 1 0),(5,.ptr 2 0),(6,.ptr 3 0),(7,.ptr 5 0)],(λO=>[.cells (cellsOf .al a0),.cells [.os 7],.cells [.v (.bool false)],.cells [.v (.int .i64 (dX a0 a1))],.mp .aok .int O.2 none,.cells [.os 4],.dead,.row .order O.1]),(λE=>[.cells (cellsOf .al a0),.cells [.v (.slice none 0 0)],.cells [.v (.bool false)],.cells [.v (.int .i64 0)],.mp .aok .int E none,.cells [.os 4],.dead,.dead]),[0,1,2,3,4,5,6,6],?_,rfl,W,nbl rfl,?_,SG a0 hb1,λz_1 O hq1=>⟨rfl,L0,λl=>?_,λl=>?_,?_⟩,λO=>?_,λy=>?_⟩;exact ahK
   ·simp only[go_sem,sH,jY,alp,ame,ak_,ali,alM,e1_0,e1_1,e1_2,e1_3,e1_4,e1_5];all_goals (first|done|decide|(repeat' (first|refine And.intro ?_ ?_|rfl|decide)))
   simp only[ak,and_self,true_and,and_true];simp only[ak,and_self,true_and,and_true];unfold ik at hq1;exact ahL (jl [0,1,2,3,4,5,6,7]) (jl [0,1,2,3,4,5,6,10]);exact aat (jl [0,1,2,3,4,5,6,7]) (jl [0,1,2,3,4,5,6,10]);exact aat (jl [0,1,2,3,4,5,6,7]) (jl [0,1,2,3,4,5,6,10])
 unfold ae Tryz.f109;try unfold aO
 exact ahM
def oj (d:ah)(reach hour:Int)(x:Order):Bool:=(x.hour==hour)&&((x.aol&&(d.zs.getD x.index.toNat default).reach==reach) ||(!x.aol&&(d.reaches.getD x.index.toNat default).up==reach))
abbrev rch (d:ah)(r:Int):Reach:=d.reaches.getD r.toNat default
def drw (d:ah)(l:List Order)(r h:Int):Int:=eB (oj d r h) l
theorem AT {ρ σ τ:Type}{step:τ->σ->ρ⊕σ}(J:List τ->σ->Prop)(E:∀ x L s,J (x::L) s->∀ s',step x s=.inr s'->J L s'):∀ (L:List τ) (s:σ),J L s->(∀ s',cB step L s=.inr s'->J [] s')/\∀ y,cB step L s=.inl y->∃ x V s',J (x::V) s'/\step x s'=.inl y
 | [],s,h=>⟨λs' e=>by grind [cB],λy e=>by simp[cB]at e⟩
 |x::L,s,h=>by
  cases O:step x s with
  |inl y=>
   grind [cB]
  |inr s1=>
   obtain⟨h1,h2⟩:=AT J E L s1 (E x L s h s1 O);grind [cB]
def Lc {ρ σ τ:Type}{step:τ->σ->ρ⊕σ}{p:τ->σ->Prop}(J:List τ->σ->Prop)(E:∀ x L s,J (x::L) s->p x s/\∀ s',step x s=.inr s'->J L s'):∀ (L:List τ) (s:σ),J L s->okL step p L s
 | [],_,_=>trivial
 |x::L,s,h=>⟨(E x L s h).1,λs' e=>Lc J E L s' ((E x L s h).2 s' e)⟩
def PR (r h:Nat)(a b:Int):Prop:=(r:Int) <a\/a=r/\b< (h:Int)
abbrev Mp:=List ((Int×Int)×Int)
structure PG (d:ah)(l:List Order)(x:Order):Prop where
 out:x.aol=false
 i0:0<=x.index
 i1:x.index< (d.reaches.length:Int)
 h0:0<=x.hour
 h1:x.hour+(rch d x.index).delay<d.hours
 w:1<=drw d l x.index (x.hour+(rch d x.index).delay)
 v:ax (rch d x.index) (drw d l x.index (x.hour+(rch d x.index).delay))=(x.dd,true)
structure PI (d:ah)(out gs:List Order)(m:Mp)(r h:Nat):Prop where
 apv:∀ a b,aq .aok .int m (a,b)=drw d (out++gs) a b
 gate:∀ x∈gs,PG d (out++gs) x/\PR r h x.index (x.hour+(rch d x.index).delay)
 all:∀ a b,0<=a->a< (d.reaches.length:Int)->0<=b->b<d.hours->PR r h a b->drw d (out++gs) a b≠0->∃ x∈gs,x.index=a/\x.hour+(rch d a).delay=b
 uniq:gs.Pairwise λx y=>¬ (x.index=y.index/\x.hour=y.hour)
 len:gs.length<=(d.reaches.length - 1 - r)*d.hours.toNat+h
def t5 (d:ah)(a b:List Order)(r h:Int):drw d (a++b) r h=drw d a r h+drw d b r h:=xB _ _ _
theorem D4 (d:ah)(x:Order)(r h:Int):drw d [x] r h=bif oj d r h x then x.dd else 0:=by unfold drw;simp[eB]
variable {d:ah}{l:List Order}
theorem NU(hr:aoL d){x:Order}(h:PG d l x):1<=x.dd/\x.dd<=1073741824/\(rch d x.index).aoI<=x.dd/\drw d l x.index (x.hour+(rch d x.index).delay)<=wst (rch d x.index) x.dd/\∀ u,0<=u->u<=1073741824->(rch d x.index).aoI<=u->drw d l x.index (x.hour+(rch d x.index).delay)<=wst (rch d x.index) u->x.dd<=u:=by
 have E:x.index.toNat<d.reaches.length:=by have:=h.i0;have:=h.i1;omega
 rcases yc (i:=(x.index.toNat:Int)) (by omega) (hr.reach _ E) h.w with⟨v,e,O,W,X,Y,V⟩ | ⟨e,_⟩;have:=h.v;grind
 rw[h.v]at e;cases e
variable {E:List Order}{m:Mp}{r h:Nat}
theorem PI.lit{out:List Order}(hr:aoL d)(O:aoR d out)(p:PI d out E m r h):∀ x∈out++E,1<=x.dd/\x.dd<=1073741824:=λx hx=>by
 rcases alu.1 hx with hx|hx;exact O.lit x hx;have:=NU hr (p.gate x hx).1;omega
def u5(h:∀ x∈l,1<=x.dd/\x.dd<=1073741824)(a b:Int):0<=drw d l a b/\drw d l a b<=l.length*1073741824:=zz h
theorem PI.arl{out:List Order}(hr:aoL d)(O:aoR d out)(p:PI d out E m r h)(V:h<=d.hours.toNat):(out++E).length<=266240+4096:=by
 have h1:=p.len;have h2:(d.reaches.length - 1 - r)*d.hours.toNat<=64*4096:=ant (by have:=hr.reaches;omega) (by have:=hr.hours;omega);have:=O.len;have:=hr.hours;grind
theorem PI.row{out:List Order}(p:PI d out E m (r+1) d.hours.toNat)(X:r+1<d.reaches.length)(hh:1<=d.hours):PI d out E m r 0:=by
 refine⟨p.apv,λx O=>⟨(p.gate x O).1,?_⟩,λa b a0 a1 W V Y=>p.all a b a0 a1 W V ?_,p.uniq,?_⟩;have:=(p.gate x O).2;grind [PR]
 grind [PR]
 have:=p.len;rw[show d.reaches.length - 1 - r=(d.reaches.length - 1 - (r+1))+1 by omega,anp];omega
theorem PI.skip{out O:List Order}(p:PI d out O m r h)(h0:drw d (out++O) r h=0):PI d out O m r (h+1):=by
 refine⟨p.apv,λx V=>⟨(p.gate x V).1,?_⟩,λa b a0 a1 X W hp E=>?_,p.uniq,?_⟩;have:=(p.gate x V).2;grind [PR]
 by_cases Y:PR r h a b
 exact p.all a b a0 a1 X W Y E;grind [PR]
 have:=p.len;omega
def WE(hr:aoL d)(h:r<d.reaches.length):(rch d r).up<r:=(hr.ap4 h).up
def kW(hr:aoL d)(h:r<d.reaches.length):1<=(rch d r).delay/\(rch d r).delay<=16:=⟨(hr.ap4 h).aqv,(hr.ap4 h).delay⟩
theorem PI.add{out V:List Order}(hr:aoL d)(ho:aoR d out)(p:PI d out V m r h)(W:r<d.reaches.length)(hhl:h<d.hours.toNat)(h1:1<=drw d (out++V) r h){v:Int}(hv:ax (rch d r) (drw d (out++V) r h)=(v,true))(hd:(rch d r).delay<=h)(v0:1<=v)(v1:v<=1073741824):
  PI d out (V++[{ hour:=(h:Int) - (rch d r).delay,index:=r,dd:=v,aol:=false}]) (cH .aok .int m ((rch d r).up,(h:Int) - (rch d r).delay) (i64.wrap (aq .aok .int m ((rch d r).up,(h:Int) - (rch d r).delay)+v))) r (h+1):=by
 generalize hx:({ hour:=(h:Int) - (rch d r).delay,index:=(r:Int),dd:=v,aol:=false}:Order)=x;have xo:x.aol=false:=by rw[<-hx]
 have xi:x.index=r:=by rw[<-hx]
 have xh:x.hour=(h:Int) - (rch d r).delay:=by rw[<-hx]
 have xl:x.dd=v:=by rw[<-hx]
 have hup:=WE hr W;have hdl:=kW hr W;have Y:∀ a b,drw d (out++(V++[x])) a b=drw d (out++V) a b+(if a=(rch d r).up/\b=(h:Int) - (rch d r).delay then v else 0):=λa b=>by
  rw[<-alG,t5,D4];congr 1
  unfold oj;grind
 have E:∀ a b,(r:Int)<=a->drw d (out++(V++[x])) a b=drw d (out++V) a b:=λa b ha=>by
  grind
 have hb:=u5 (d:=d) (p.lit hr ho);have hlen:=p.arl hr ho (by omega);refine⟨λa b=>?_,λy hy=>?_,λa b a0 a1 b0 b1 hp X=>?_,?_,?_⟩;rw[oe (k:=.aok),Y,p.apv,p.apv];have:=hb (rch d r).up ((h:Int) - (rch d r).delay);by_cases e:a=(rch d r).up/\b=(h:Int) - (rch d r).delay
 rw[if_pos e,if_pos (by rw[e.1,e.2]),e.1,e.2,aA (by omega) (by omega)];grind
 rcases alu.1 hy with hy|hy;obtain⟨g,gp⟩:=p.gate y hy;have O:(r:Int)<=y.index:=by grind [PR]
 refine⟨⟨g.out,g.i0,g.i1,g.h0,g.h1,by rw[E _ _ O];exact g.w,by rw[E _ _ O];exact g.v⟩,?_⟩;grind [PR]
 rw[alz]at hy;subst hy;have eh:y.hour+(rch d y.index).delay=h:=by grind
 refine⟨⟨xo,by omega,by omega,by omega,by omega,?_,?_⟩,?_⟩;grind
 grind
 grind [PR]
 have O:(r:Int)<=a:=by grind [PR]
 rw[E _ _ O]at X;by_cases hq:PR r h a b
 obtain⟨y,hy,e⟩:=p.all a b a0 a1 b0 b1 hq X;grind
 grind [PR]
 rw[aln];refine⟨p.uniq,alN _ _,λy hy z hz=>?_⟩;rw[alz]at hz;subst hz;rintro⟨e1,e2⟩;have:=(p.gate y hy).2;grind [PR]
 have:=p.len;grind
theorem yd{out:List Order}(hr:aoL d)(ho:aoR d out):
  (∀ m,aj (bT d out) out.length 0 []=.inr m->(∀ x∈out,x.aol=true)/\∀ a b,aq .aok .int m (a,b)=drw d out a b)/\okI (bT d out) (jE d out) out.length 0 []/\((∀ x∈out,x.aol=true)->∃ m,aj (bT d out) out.length 0 []=.inr m):=by
 let J:Nat->Mp->Prop:=λk m=>k<=out.length->(∀ x∈out.take k,x.aol=true)/\∀ a b,aq .aok .int m (a,b)=drw d (out.take k) a b
 have W:J 0 []:=λ_=>⟨by simp,λa b=>by rfl⟩;have hstep:∀ j s,0<=j->j<0+out.length->J j s->jE d out j s/\∀ s',bT d out j s=.inr s'->J (j+1) s':=λj s _ Y hJ=>by
  have Y:j<out.length:=by omega
  obtain⟨h1,h2⟩:=hJ (by omega);have O:=ho.one j Y;refine⟨λhe=>?_,λs' X _=>?_⟩;have:(out.getD j default).aol=true:=by grind
  have:=O.gl this;have:=O.ap2;omega;unfold bT at X;cases E:(out.getD j default).aol with
  |false=>grind
  |true=>
   rw[E]at X;simp only[alj,cond_false,alP]at X;have hel:=iC out default Y;rw[alF Y];refine⟨λx O=>?_,λa b=>?_⟩;grind
   subst X;rw[t5,D4,oe (k:=.aok),h2,h2,<-hel];have hb:=u5 (d:=d) (l:=out.take j) (λx O=>ho.lit x (alX O)) (d.zs.getD (out.getD j default).index.toNat default).reach (out.getD j default).hour;have hl:(out.take j).length<=4096:=by have:=ho.len;grind
   have hl1:=O.apX;have hl2:=O.dd;rw[aA (by omega) (by omega)];unfold oj;grind
 refine⟨λm hm=>?_,jS J _ _ _ W hstep,λV=>?_⟩;have:=uI J _ _ _ W (λj s h1 h2 h3=>(hstep j s h1 h2 h3).2) m hm (by omega);grind
 cases hrun:aj (bT d out) out.length 0 []with
 |inr m=>grind
 |inl y=>
  exfalso;have key:∀ n i s,i+n<=out.length->∀ y,aj (bT d out) n i s≠ .inl y:=by
   intro n;induction n with
   |zero=>grind [aj]
   |succ n ih=>
    intro i s hi y h;simp only[aj]at h;have E:(out.getD i default).aol=true:=V _ (Cj _ _ (by omega));unfold bT at h;rw[E]at h;simp only[alj,cond_false]at h;exact ih (i+1) _ (by omega) y h
  grind
def PJ (d:ah)(out:List Order)(L:List (Int×Int))(s:List Order×Mp):Prop:= ∃ gs r h,r<d.reaches.length/\h<=d.hours.toNat/\s.1=out++gs/\L=BF r d.hours.toNat h++vD d.hours.toNat r/\PI d out gs s.2 r h
theorem Ld{out:List Order}(hr:aoL d){x:Int×Int}{L:List (Int×Int)}{s:List Order×Mp}(h:PJ d out (x::L) s):∃ (O:List Order) (r h:Nat),r<d.reaches.length/\h<d.hours.toNat/\s.1=out++O/\x=((r:Int),(h:Int))/\L=BF r d.hours.toNat (h+1)++vD d.hours.toNat r/\PI d out O s.2 r h:=by
 obtain⟨O,r,h,h1,h2,W,E,X⟩:=h;have V:=hr.apz;by_cases Y:h<d.hours.toNat
 grind [pC]
 have:h=d.hours.toNat:=by omega
 subst this;rw[xa,ak_]at E;cases r with
 |zero=>simp[vD]at E
 |succ r=>
  rw[uL,pC (by omega),alr]at E;cases E;exact⟨O,r,0,by omega,by omega,W,rfl,rfl,X.row h1 V⟩
theorem Ji{out:List Order}(hr:aoL d)(W:aoR d out)(O:r<d.reaches.length)(hhl:h<d.hours.toNat){s:List Order×Mp}(hs:s.1=out++E)(p:PI d out E s.2 r h):
  (drw d (out++E) r h=0/\aF d ((r:Int),(h:Int)) s=.inr s)\/
  (1<=drw d (out++E) r h/\((ax (rch d r) (drw d (out++E) r h)).2=false\/(h:Int) < (rch d r).delay)/\aF d ((r:Int),(h:Int)) s=.inl s.2)\/
  ∃ v,1<=drw d (out++E) r h/\ax (rch d r) (drw d (out++E) r h)=(v,true)/\(rch d r).delay<=h/\1<=v/\v<=1073741824/\
   aF d ((r:Int),(h:Int)) s=.inr (out++(E++[{ hour:=(h:Int) - (rch d r).delay,index:=r,dd:=v,aol:=false}]),cH .aok .int s.2 ((rch d r).up,(h:Int) - (rch d r).delay) (i64.wrap (aq .aok .int s.2 ((rch d r).up,(h:Int) - (rch d r).delay)+v))):=by
 have hb:=(u5 (d:=d) (p.lit hr W) r h).1;have hm:=p.apv r h;have hdl:=kW hr O;have hH:=hr.hours;by_cases h0:drw d (out++E) r h=0
 grind [aF]
 have h1:1<=drw d (out++E) r h:=by omega
 have X:(aq .aok .int s.2 ((r:Int),(h:Int)) ==0)=false:=by grind
 have hw:i64.wrap ((h:Int) - (rch d r).delay)=(h:Int) - (rch d r).delay:=aA (by omega) (by omega);by_cases hd:(h:Int) < (rch d r).delay
 refine .inr (.inl ⟨h1,.inr hd,?_⟩);unfold aF;grind
 rcases yc (i:=(r:Int)) (by omega) (hr.reach r O) h1 with⟨v,e,V,Y,e3,e4,e5⟩ | ⟨e,_⟩;refine .inr (.inr ⟨v,h1,e,by omega,V,Y,?_⟩);have e':ax (d.reaches.getD r default) (aq .aok .int s.2 ((r:Int),(h:Int)))=(v,true):=by grind
 unfold aF;grind
 refine .inr (.inl ⟨h1,.inl e,?_⟩);have e':(ax (d.reaches.getD r default) (aq .aok .int s.2 ((r:Int),(h:Int)))).2=false:=by grind
 unfold aF;grind
theorem Rw{out:List Order}(hr:aoL d)(Y:aoR d out)(x:Int×Int)(L:List (Int×Int))(s:List Order×Mp)(X:PJ d out (x::L) s):∀ s',aF d x s=.inr s'->PJ d out L s':=by
 obtain⟨gs,r,h,h1,h2,h3,rfl,h5,W⟩:=Ld hr X;intro s' E;rcases Ji hr Y h1 h2 h3 W with⟨V,O⟩ | ⟨V,O,q2⟩ | ⟨v,V,O,q2,q3,q4,q5⟩;rw[O]at E;cases E;exact⟨gs,r,h+1,h1,h2,h3,h5,W.skip V⟩;grind
 rw[q5]at E;cases E;exact⟨_,r,h+1,h1,h2,rfl,h5,W.add hr Y h1 h2 V O q2 q3 q4⟩
theorem NV{out:List Order}(hr:aoL d)(W:∀ a b,aq .aok .int m (a,b)=drw d out a b):PJ d out (cO d) (out,m):=by
 have h1:=hr.one;refine⟨[],d.reaches.length - 1,0,by omega,alB _,by simp,?_,⟨by grind,by simp,λa b a0 a1 V O E=>?_,List.Pairwise.nil,by simp⟩⟩;unfold cO;rw[<-uL,show d.reaches.length - 1+1=d.reaches.length by omega];grind [PR]
structure aqt (d:ah)(out gs:List Order):Prop where
 gate:∀ x∈gs,PG d (out++gs) x
 all:∀ a b,0<=a->a< (d.reaches.length:Int)->0<=b->b<d.hours->drw d (out++gs) a b≠0->∃ x∈gs,x.index=a/\x.hour+(rch d a).delay=b
 uniq:gs.Pairwise λx y=>¬ (x.index=y.index/\x.hour=y.hour)
 len:gs.length<=d.reaches.length*d.hours.toNat
theorem ac6{out:List Order}(hr:aoL d){s:List Order×Mp}(h:PJ d out [] s):∃ E,s.1=out++E/\aqt d out E:=by
 obtain⟨E,r,h,h1,h2,h3,h4,O⟩:=h;have hH:=hr.apz;have W:h=d.hours.toNat:=by
  grind [pC]
 subst W;rw[xa,ak_]at h4;have X:r=0:=by
  cases r with
  |zero=>rfl|succ r=>grind [uL,pC]
 subst X;refine⟨E,h3,⟨λx hx=>(O.gate x hx).1,λa b a0 a1 b0 Y V=>O.all a b a0 a1 b0 Y ?_ V,O.uniq,?_⟩⟩;unfold PR;omega;have:=O.len;have e:d.reaches.length=(d.reaches.length - 1 - 0)+1:=by omega
 grind [Nat.succ_mul]
structure PX (d:ah)(out gs:List Order)(r h:Nat):Prop where
 part:∃ m,PI d out gs m r h
 r1:r<d.reaches.length
 h1:h<d.hours.toNat
 w:1<=drw d (out++gs) r h
 no:(ax (rch d r) (drw d (out++gs) r h)).2=false\/(h:Int) < (rch d r).delay
theorem GL{out:List Order}(hr:aoL d)(V:aoR d out)(hm:∀ a b,aq .aok .int m (a,b)=drw d out a b):
  ((∃ s,cB (aF d) (cO d) (out,m)=.inr s/\∃ O,s.1=out++O/\aqt d out O)\/∃ y,cB (aF d) (cO d) (out,m)=.inl y/\∃ O r h,PX d out O r h)/\
  okL (aF d) (ik d) (cO d) (out,m):=by
 obtain⟨h1,h2⟩:=AT (PJ d out) (λx L s h=>Rw hr V x L s h) (cO d) (out,m) (NV hr hm);refine⟨?_,Lc (PJ d out) (λx L s h=>⟨?_,Rw hr V x L s h⟩) _ _ (NV hr hm)⟩;cases E:cB (aF d) (cO d) (out,m)with
 |inr s=>exact .inl ⟨s,rfl,ac6 hr (h1 s E)⟩
 |inl y=>
  refine .inr ⟨y,rfl,?_⟩;obtain⟨x,L,s,g1,g2⟩:=h2 y E;obtain⟨O,r,h,Y,X,q3,rfl,q5,W⟩:=Ld hr g1;rcases Ji hr V Y X q3 W with⟨_,e⟩ | ⟨e0,e1,_⟩ | ⟨v,_,_,_,_,_,e⟩;grind
  exact⟨O,r,h,⟨_,W⟩,Y,X,e0,e1⟩;grind
 obtain⟨O,r,h,Y,X,q3,rfl,q5,W⟩:=Ld hr h;unfold ik;simp only;refine λ_=>⟨⟨by omega,by omega⟩,WA _ _,λ_=>?_⟩;have:=W.arl hr V (by omega);grind [d8]
end Go.Sx
end
section
namespace Go.Sx
open Go.Lib Go.Proofs Go.Shelf Go.Sort
open IntKind (i64)
def K (x y:Order):Prop:=x.hour=y.hour/\x.index=y.index/\x.aol=y.aol
variable {x y:Order}
theorem K.symm(h:K x y):K y x:=⟨h.1.symm,h.2.1.symm,h.2.2.symm⟩
theorem WF(h:AQ x=AQ y):x.aol=y.aol:=by
 grind [AQ]
theorem D5(h1:¬olt x y)(h2:¬olt y x):K x y:=by
 have e:x.hour=y.hour/\x.index=y.index/\AQ x=AQ y:=by grind [olt]
 exact⟨e.1,e.2.1,WF e.2.2⟩
theorem ac7(h:olt x y):¬K x y:=λ⟨h1,h2,E⟩ =>by
 grind [AQ,olt]
variable {l:List Order}
theorem Rx(h:l.Pairwise λx y=>¬K x y)(V:x∈l)(hy:y∈l)(E:K x y):x=y:=by
 obtain⟨i,hi,rfl⟩:=alI V;obtain⟨j,O,rfl⟩:=alI hy;rw[aly]at h;rcases Nat.lt_trichotomy i j with q|q|q;grind
 subst q;rfl;exact absurd E.symm (h j i O hi q)
theorem WG(h:l.Pairwise λx y=>¬K x y):apart aL l:=λx E y hy h1 h2=>by
 refine Rx h E hy (D5 (λq=>?_) λq=>?_);unfold ltOf at h1;rw[decide_eq_false_iff_not]at h1;exact h1 ((NP _ _).2 q);unfold ltOf at h2;rw[decide_eq_false_iff_not]at h2;exact h2 ((NP _ _).2 q)
def AU (l:List Order):(srt aL l).Perm l:=al5 _ _
def qA{m:List Order}(h:l.Perm m)(E:m.Pairwise λx y=>¬K x y):l.Pairwise λx y=>¬K x y:=
 (h.pairwise_iff (λ{x y} (h:¬K x y) (k:K y x) =>h k.symm)).2 E
theorem ac8(h:l.Pairwise λx y=>¬K x y):(srt aL l).Pairwise olt:=by
 have h1:(srt aL l).Pairwise λx y=>(!(ltOf aL y x))=true:=by
  refine alW (λa b c h1 h2=>?_) (λa b=>?_) l;simp only[alm]at h1 h2 |-;exact vV.ntrans _ _ _ h2 h1;cases q:ltOf aL b a with
  |false=>rfl
  |true=>
   cases E:ltOf aL a b with
   |false=>rfl|true=>have:=vV.trans _ _ _ q E;rw[vV.irrefl]at this;cases this
 have h2:=qA (AU l) h;refine(h1.and h2).imp λ{x y} ⟨W,E⟩ =>?_;have V:¬olt y x:=λq=>by
  have:ltOf aL y x=true:=by unfold ltOf;rw[decide_eq_true_eq];exact(NP _ _).2 q
  grind
 exact alD λO=>E (D5 O V)
structure apH (d:ah)(l:List Order):Prop where
 chk:aw d=0
 len:l.length<=4096
 one:∀ x∈l,ap9 d x
 asc:l.Pairwise olt
variable {d:ah}
theorem apH.right(h:apH d l):aoL d:=jz (by rw[h.chk];rfl)
theorem Zf(h:eA d l=0):apH d l:=by
 have E:=GH (d:=d) (l:=l) (by rw[h];rfl);refine⟨((yW d l).1 h).1,E.len,λx W=>?_,aly.2 λi j hi V O=>?_⟩;obtain⟨i,hi,rfl⟩:=alI W;have:=E.one i hi;grind
 have:=E.lt j i O V;grind
theorem apH.apC(h:apH d l):aoR d l:=by
 refine⟨h.right,h.len,λk E=>?_,λk E=>?_⟩;rw[iC _ _ E];exact h.one _ (alR _);rw[iC _ _ E,iC _ _ (by omega:k<l.length)];exact(NP _ _).2 (aly.1 h.asc _ _ _ _ (by omega))
theorem apH.keys(h:apH d l):l.Pairwise λx y=>¬K x y:=h.asc.imp λ{_ _} q=>ac7 q
theorem WH(h:apH d l):eA d l=0:=by
 refine(yW d l).2 ⟨h.chk,h.len,λk W=>?_⟩;have E:=h.one _ (Cj l default W);have O:(decide ((k:Int) > 0)&&decide (aL (l.getD (i64.wrap ((k:Int) - 1)).toNat default) (l.getD k default)>=0))=false:=by
  rw[al7,decide_eq_false_iff_not,decide_eq_false_iff_not];by_cases hk0:0<k
  right;have X:=h.len;rw[od (by omega) hk0,ak1];have:=h.apC.asc (k - 1) (by omega);grind
  omega
 unfold iN;rw[O];generalize l.getD k default=x at E;cases V:x.aol with
 |true=>
  have:=E.gl V;simp only[cond_true];have e:(decide (x.hour<0) ||decide (x.hour>=d.hours) ||decide (x.index<0) ||decide (x.index>=(d.zs.length:Int)) ||decide (x.dd<1) ||decide (x.dd > 1073741824) ||false)=false:=by
   have:=E.aqE;have:=E.hour;have:=E.ap2;have:=E.apX;have:=E.dd;grind
  rw[e];rfl
 |false=>
  have:=E.reach V;simp only[cond_false];have e:(decide (x.hour<0) ||decide (x.hour>=d.hours) ||decide (x.index<0) ||decide (x.index>=(d.reaches.length:Int)) ||decide (x.dd<1) ||decide (x.dd > 1073741824) ||false)=false:=by
   have:=E.aqE;have:=E.hour;have:=E.ap2;have:=E.apX;have:=E.dd;grind
  rw[e];rfl
structure Nar (d:ah)(l:List Order):Prop where
 good:apH d l
 wide:(d.reaches.length:Int)*d.hours<=1024
theorem Jj(hr:aoL d):0<=(d.reaches.length:Int)*d.hours/\(d.reaches.length:Int)*d.hours<=262144:=by
 have:=hr.reaches;have:=hr.hours;have:=hr.apz;have h1:=Int.mul_le_mul (by omega:(d.reaches.length:Int)<=64) hr.hours (by omega) (by omega);have h2:=amW (by omega:0<=(d.reaches.length:Int)) (by omega:0<=d.hours);omega
theorem vY (d:ah)(l:List Order):dX d l=0↔Nar d l:=by
 unfold dX;by_cases h:eA d l=0
 have E:=Zf h;have O:=Jj E.right;rw[aA (by omega) (by omega),h];by_cases hw:(d.reaches.length:Int)*d.hours > 1024
 rw[decide_eq_true hw];simp only[beq_self_eq_true,Bool.and_self,cond_true];exact⟨λe=>(by cases e),λe=>(by have:=e.wide;omega)⟩;rw[decide_eq_false hw];simp only[Bool.and_false,cond_false];exact⟨λ_=>⟨E,by omega⟩,λ_=>trivial⟩;have:(eA d l==0)=false:=by grind
 rw[this];simp only[anv,cond_false];exact⟨λe=>absurd e h,λe=>absurd (WH e.good) h⟩
structure PL (d:ah)(out gs:List Order):Prop where
 good:apH d (srt aL (out++gs))
 fin:aqt d out gs
theorem NW{out O:List Order}(V:apH d out)(E:∀ x∈out,x.aol=true)(h:aqt d out O):(out++O).Pairwise λx y=>¬K x y:=by
 rw[aln];refine⟨V.keys,h.uniq.imp λ{x y} q k=>q ⟨k.2.1,k.1⟩,λx W y hy k=>?_⟩;have:=k.2.2;rw[E x W,(h.gate y hy).out]at this;cases this
theorem Zg{out V:List Order}(E:apH d out)(h:aqt d out V):∀ x∈out++V,ap9 d x:=λx hx=>by
 rcases alu.1 hx with hx|hx;exact E.one x hx;have g:=h.gate x hx;have O:=NU E.right g;have hd:=kW E.right (r:=x.index.toNat) (by have:=g.i0;have:=g.i1;omega);rw[show((x.index.toNat:Nat):Int)=x.index from alQ g.i0]at hd;have:=g.h1;exact⟨g.h0,by omega,g.i0,λe=>(by rw[g.out]at e;cases e),λ_=>g.i1,O.1,O.2.1⟩
theorem GM (d:ah)(out:List Order):
  (dX d out≠0/\aO d out=([],false,dX d out))\/
  (Nar d out/\¬ (∀ x∈out,x.aol=true)/\aO d out=([],false,220))\/
  (Nar d out/\(∀ x∈out,x.aol=true)/\(∃ O r h,PX d out O r h)/\aO d out=([],false,0))\/
  (Nar d out/\(∀ x∈out,x.aol=true)/\∃ O,aqt d out O/\4096< (out++O).length/\aO d out=([],false,2))\/
  (Nar d out/\(∀ x∈out,x.aol=true)/\∃ O,PL d out O/\aO d out=(srt aL (out++O),true,0)):=by
 unfold aO;by_cases hn:dX d out=0
 have V:=(vY d out).1 hn;have hr:=V.good.right;have X:=V.good.apC;rw[hn];simp only[bne_self_eq_false,cond_false];obtain⟨f1,_,f3⟩:=yd hr X;by_cases E:∀ x∈out,x.aol=true
 obtain⟨m,Y⟩:=f3 E;rw[Y];simp only;obtain⟨h1,_⟩:=GL hr X (f1 m Y).2;rcases h1 with⟨s,hs,O,e1,W⟩ | ⟨y,hy,hx⟩;rw[hs];simp only[e1];by_cases hl:(out++O).length<=4096
 rw[decide_eq_false (by omega)];refine .inr (.inr (.inr (.inr ⟨V,E,O,⟨⟨V.good.chk,?_,λx hx=>Zg V.good W x ((AU _).mem_iff.1 hx),ac8 (NW V.good E W)⟩,W⟩,rfl⟩)));rw[(AU _).length_eq];exact hl;grind
 grind
 grind
 grind
def WI (d:ah)(l:List Order):mJ d l:=P8 d l
theorem ac9 (d:ah)(out:List Order):pa d out:=by
 refine⟨WI _ _,λhn=>?_⟩;have E:=(vY d out).1 (by grind);have hr:=E.good.right;have O:=E.good.apC;obtain⟨Y,f2,f3⟩:=yd hr O;refine λ_=>⟨f2,λm W=>⟨?_,?_,?_⟩⟩;have:=O.len;unfold d8;omega;have:=hr.hours;omega;obtain⟨h1,h2⟩:=GL hr O (Y m W).2;refine⟨h2,λs X _ _=>?_⟩;rcases h1 with⟨s',V,gs,e1,e2⟩ | ⟨y,hy,_⟩;rw[V]at X;cases X;rw[e1];exact WG (NW E.good (Y m W).1 e2);grind
end Go.Sx
end
section
namespace Go.Sx
open Go.Proofs
variable {κ υ:Type}[DecidableEq κ]in
theorem NX:∀ (l:List (κ×υ)) (x:κ) (y:υ) (e:κ×υ),e∈tx l x y->e=(x,y)\/e∈l
 | [],x,y,e,h=>by grind [tx]
 |(a,b)::r,x,y,e,h=>by
  unfold tx at h;by_cases q:x=a
  grind
  rw[if_neg q]at h;rcases ala.1 h with h|h;grind
  rcases NX r x y e h with h|h <;>grind
variable {κ υ:Type}[DecidableEq κ]in
theorem Jk:∀ (l:List (κ×υ)) (x:κ) (y:υ),iy l x=some y->(x,y)∈l
 |(a,b)::r,x,y,h=>by
  unfold iy at h;by_cases q:x=a
  grind
  rw[if_neg q]at h;exact ak6 _ (Jk r x y h)
variable {κ υ:Type}[DecidableEq κ]in
theorem Qb {l:List (κ×υ)}(h:(l.map Prod.fst).Nodup)(x:κ)(y:υ):((tx l x y).map Prod.fst).Nodup:=by
 grind [zA]
structure SM (k:Tag)(f:k.T->Int)(m:List (k.T×Int)):Prop where
 get:∀ p,aq k .int m p=f p
 nd:(m.map Prod.fst).Nodup
 pos:∀ e∈m,1<=e.2
variable {k:Tag}
theorem SM.nil:SM k (λ_=>0) []:=⟨λ_=>rfl,amx,λ_ h=>by cases h⟩
variable {f:k.T->Int}{m:List (k.T×Int)}
theorem SM.put(h:SM k f m)(x:k.T){v:Int}(O:1<=v){g:k.T->Int}(E:∀ p,g p=if p=x then v else f p):SM k g (cH k .int m x v):=by
 refine⟨λp=>?_,Qb h.nd x v,λe he=>?_⟩;rw[oe,h.get,E];rcases NX (υ:=Int) m x v e he with rfl|he;exact O;exact h.pos e he
theorem SM.entry(h:SM k f m){e:k.T×Int}(E:e∈m):e.2=f e.1/\1<=f e.1:=by
 have h1:=NQ m e h.nd E;have h2:=h.get e.1;unfold aq at h2;rw[h1]at h2;have O:e.2=f e.1:=h2;exact⟨O,O▸h.pos e E⟩
theorem SM.mem(h:SM k f m){p:k.T}(O:f p≠0):(p,f p)∈m:=by
 have h2:=h.get p;unfold aq at h2;cases E:iy m p with
 |none=>rw[E]at h2;exact absurd h2.symm O
 |some v=>
  rw[E]at h2;have V:v=f p:=h2;exact V▸Jk m p v E
theorem Te {P:Order->Bool}{l m:List Order}(h:l.Perm m):eB P l=eB P m:=by
 induction h with
 |nil=>rfl|cons x _ V=>grind [eB]|swap x y l=>grind [eB]|trans _ _ O E=>rw[O,E]
theorem Le {ρ σ:Type}{step:Nat->σ->ρ⊕σ}(J:Nat->σ->Prop):∀ (n i:Nat) (s:σ),J i s->(∀ j s,i<=j->j<i+n->J j s->∃ s',step j s=.inr s'/\J (j+1) s')->∃ s',aj step n i s=.inr s'/\J (i+n) s'
 |0,i,s,h,_=>⟨s,rfl,h⟩
 |n+1,i,s,h,hs=>by
  obtain⟨s1,E,h1⟩:=hs i s (ak2 _) (by omega) h;obtain⟨V,O,h2⟩:=Le J n (i+1) s1 h1 λj s a b=>hs j s (by omega) (by omega);grind [aj]
end Go.Sx
end
section
namespace Go.Sx
open Go.Proofs
open IntKind (i64)
theorem Tf (d:ah)(c:List Claim):oS d c:=λ_ h1 _ _=>g8 _ _ _ λj s h2 E=>by
 unfold aN at h1;unfold li;refine⟨λh=>?_,λh=>?_,λ_ h=>?_⟩;grind
 grind
 simp only[decide_eq_true_eq]at h;grind [od]
theorem Lf (d:ah)(c:List Claim):dI d c=0↔aw d=0/\c.length<=4096/\∀ k,k<c.length->jg d c k ()=.inr ():=by
 unfold dI;cases h1:(aw d !=0)with
 |true=>grind
 |false=>
  simp at h1;simp only[cond_false,h1,true_and];grind [gT]
def Lg (a b:Claim):Prop:=a.hour<b.hour\/a.hour=b.hour/\(a.aoA<b.aoA\/a.aoA=b.aoA/\(a.right<b.right\/a.right=b.right/\a.gl<b.gl))
theorem Qc {a b c:Claim}(h1:Lg a b)(h2:Lg b c):Lg a c:=by
 grind [Lg]
theorem ac_ (a b c d:Int):fZ [a,b,c,d]=if a≠0 then a else if b≠0 then b else if c≠0 then c else d:=by
 unfold fZ;simp only[ak5,alo,ak8,Nat.reduceAdd,aj,rt,ano,List.getD_cons_succ];grind
theorem Tg (a b:Claim):c5 a b<0↔Lg a b:=by
 grind [c5,Lg,ac_,jy]
def okC (d:ah)(a:Claim):Bool:=letI q0:=d.ai.getD a.right.toNat default;(((((((((decide (a.right>=0))&&(decide (a.right< (d.ai.length:Int))))&&(decide (a.gl>=0)))&&(decide (a.gl< (d.zs.length:Int))))&&(decide (a.hour>=0)))&&(decide (a.hour<d.hours)))&&(decide (a.dd>=1)))&&(decide (a.dd<=1073741824))))&&(q0.kind==1)&&(q0.aoA==a.aoA)
variable {d:ah}
theorem C7{c:List Claim}{k:Nat}(W:k<4096):jg d c k ()=.inr ()↔okC d (c.getD k default)=true/\(0<k->Lg (c.getD (k - 1) default) (c.getD k default)):=by
 have hw:k > 0->(i64.wrap ((k:Int) - 1)).toNat=k - 1:=λh=>by grind [od]
 have V:∀ X:Bool,((bif X then Sum.inl ()else Sum.inr ()):Unit⊕Unit)=.inr ()↔X=false:=λX=>by grind
 unfold jg okC;rw[V];generalize E:((((((((decide ((c.getD k default).right>=0))&&(decide ((c.getD k default).right< (d.ai.length:Int))))&&(decide ((c.getD k default).gl>=0)))&&(decide ((c.getD k default).gl< (d.zs.length:Int))))&&(decide ((c.getD k default).hour>=0)))&&(decide ((c.getD k default).hour<d.hours)))&&(decide ((c.getD k default).dd>=1)))&&(decide ((c.getD k default).dd<=1073741824)))=q;clear E;by_cases O:0<k
 rw[hw O,<-Tg];grind
 simp_all
theorem kv (d:ah)(c:List Claim):dI d c=0↔aw d=0/\c.length<=4096/\(∀ a∈c,okC d a=true)/\c.Pairwise Lg:=by
 rw[Lf];refine and_congr_right λ_=>and_congr_right λhl=>?_;constructor
 intro h;have W:=λk E=>(C7 (by omega)).1 (h k E);refine⟨λa V=>?_,?_⟩;obtain⟨k,E,rfl⟩:=alI V;grind
 have key:∀ (k j:Nat),j<k->k<c.length->Lg (c.getD j default) (c.getD k default):=by
  intro k;induction k with
  |zero=>omega
  |succ k X=>
   intro j h1 h2;have O:=(W (k+1) h2).2 (by omega);rw[ans]at O;by_cases e:j=k
   grind
   exact Qc (X j (by omega) (by omega)) O
 grind [List.pairwise_iff_getElem]
 rintro⟨h1,h2⟩ k E;refine(C7 (by omega)).2 ⟨?_,λY=>?_⟩;grind
 rw[iC _ _ E,iC _ _ (by omega:k - 1<c.length)];exact aly.1 h2 _ _ _ _ (by omega)
def qf (a:Claim):aoG:= { hour:=a.hour,index:=a.gl,aol:=true}
def fS (p:aoG):List Claim->Int
 | [] =>0|a::r=>(if p=qf a then a.dd else 0)+fS p r
theorem NY (p:aoG)(a b:List Claim):fS p (a++b)=fS p a+fS p b:=by
 induction a with
 |nil=>simp[fS]|cons x r E=>grind [fS]
theorem Ib (p:aoG)(c:List Claim)(h:∀ a∈c,1<=a.dd/\a.dd<=1073741824):0<=fS p c/\fS p c<=c.length*1073741824:=by
 induction c with
 |nil=>simp[fS]
 |cons x r O=>
  have h1:=O λa E=>h a (ak6 _ E);grind [fS]
theorem GN{a:Claim}(h:okC d a=true):1<=a.dd/\a.dd<=1073741824:=by
 simp_all [okC]
def fv (reach a b:Int)(x:Order):Bool:=(!x.aol&&x.index==reach)&&decide (x.hour>=a)&&decide (x.hour<=b)
def cell (g:List (List Int))(i j:Nat):Int:=(g.getD i []).getD j 0
variable {l:List Order}
theorem Th(W:aoR d l){j:Nat}(Y:j<l.length){p:Order->Bool}(O:∀ x,p x=true->x.hour=l[j].hour/\x.index=l[j].index/\x.aol=l[j].aol):eB p (l.take j)=0:=
 u4 λx hx=>by
  obtain⟨i,hi,rfl⟩:=alI hx;rw[al0]at hi;rw[List.getElem_take];cases h:p l[i]with
  |false=>rfl
  |true=>
   obtain⟨E,V,X⟩:=O _ h;have:=W.uniq (by omega) Y E V X;omega
theorem Ry(E:aoR d l)(p:Order->Bool)(j:Nat):0<=eB p (l.take j)/\eB p (l.take j)<=4398046511104:=by
 have V:=zz (p:=p) λa O=>E.lit a (alX (i:=j) O);have W:=E.len;grind
theorem WJ(E:aoR d l)(p:Order->Bool):0<=eB p l/\eB p l<=4398046511104:=by
 have:=Ry E p l.length;grind
theorem WK(E:aoR d l)(r:Int){a m b:Int}(h1:a<=m)(h2:m<=b+1):eB (fv r a (m - 1)) l+eB (fv r m b) l=eB (fv r a b) l:=Wu λx _=>by
 unfold fv;grind
@[go_sem] def dl (c:List Claim)(k_0:Nat)(x4:List (r5×Int)):Empty⊕(List (r5×Int)):=letI q1:=c.getD k_0 default;letI q0:=({ index:=q1.gl,hour:=q1.hour}:r5);.inr (cH .bo .int x4 q0 (i64.wrap ((aq .bo .int x4 q0)+q1.dd)))
@[go_sem] def eb (x4:List (r5×Int))(k_1:r5×Int)(s_1:List Order):Empty⊕(List Order):=.inr (s_1++([({ hour:=k_1.1.hour,index:=k_1.1.index,dd:=k_1.2,aol:=true}:Order)]))
def gb (x4:List (r5×Int))(k_1:r5×Int)(s_1:List Order):Prop:=((s_1++([({ hour:=k_1.1.hour,index:=k_1.1.index,dd:=k_1.2,aol:=true}:Order)])).length*32<=d8)
def ay (c:List Claim):List Order:=(match aj (dl c) c.length 0 ([])with| .inl x=>x.elim| .inr x4=>(match cB (eb x4) x4 ([])with| .inl x=>x.elim| .inr s_1=>(srt ar s_1)))
def jT (c:List Claim):Prop:=(c.length<=aN->(∀ x4,aj (dl c) c.length 0 ([])=.inr x4->(∀ L_1,L_1.Perm x4->(okL (eb x4) (gb x4) L_1 ([])/\(∀ s_1,cB (eb x4) L_1 ([])=.inr s_1->((apart ar s_1)/\((srt ar s_1)=(ay c))))))))
@[go_sem] def yy:List SV->Option Con:=(pR .Q1 λc=>(pE (.det (jT c) (.nw .order (ay c)))))
theorem ahN {p:Prop}(h:p:=by simp only[go_sem];all_goals exact clP):p:=h
theorem xD:P1 Tryz.prog 164 yy:=by
 have hG:=mG W2 (co C6 W2);refine fE hG Tryz.f164 (bM λc=>(am (λhp=>?_)));dsimp only[an]at hp;unfold jT at hp;refine⟨nbl rfl,(λid st=>bif Nat.beq id 0 then some (LCR (ρ:=Empty) (σ:=(List (r5×Int))) 1 [] [0] (λY W=>⟨[(2,.v (.slice none 0 0)),(3,.os 0),(9,.rs .Q1 c),(10,.v (.int .i64 (c.length:Int))),(11,.v (.int .i64 (Y:Int)))],[.mp .bo .int W none]⟩) (dl c) pT c.length ([]) (c.length<=aN) ((·.elim)) ((·.elim)) st)else bif Nat.beq id 2 then some (LCP (τ:=r5×Int) (ρ:=Empty) (σ:=(List Order)) 2 [.slot 2 (.row .order ([]))] [0,1,2] (λE O V=>⟨[(2,.os 2),(29,.ptr 1 0)],[.mp .bo .int (cy (aj (dl c) c.length 0 ([]))) (some (1,none)),.mi (some 0) (cy (aj (dl c) c.length 0 ([]))).length E O,.row .order V]⟩) (eb (cy (aj (dl c) c.length 0 ([])))) (gb (cy (aj (dl c) c.length 0 ([])))) (cy (aj (dl c) c.length 0 ([]))) ([]) ((·.elim)) ((·.elim)) (λV=>⟨[(2,.os 2)],[.dead,.dead,.row .order V]⟩) st)else none),?_,?_⟩
 ·unfold ae Tryz.f164;simp only[ak,true_and,and_true];refine⟨?_,?_⟩;refine b_ mixed aJ hG kr (λ_=>rfl) (c.length:Int) rfl fH (λhb0 Y W apq _ hw hc=>⟨L0,ag _,?_⟩) (λhb0 W hc=>?_);exact bE (jl [0]);exact bF (jl [0])
  ·refine ML (eG .bo,eG .int) 1 mixed aJ hG kr (λ_=>rfl) λE O V hp1=>⟨L0,ag _,?_⟩
   ·by_cases X:E=[]
    subst X;exact aar (jl [0,1,5]) (jl [0,1,2])
    ·simp only[go_sem,X];intro j hj1;obtain⟨apU,hq1⟩:=hp1 j hj1;unfold gb at hq1;all_goals exact gw (jl [0,1,5]) (jl [0,1,2])
 unfold ae Tryz.f164;exact ahN
@[go_sem] def bX (s_:List Order)(k_0:Nat)(x4:Unit):Int⊕Unit:=(bif(o_ (s_.getD k_0 default))then .inl (k_0:Int)else .inr ())
def dS (s_:List Order):Int:=(match aj (bX s_) s_.length 0 ()with| .inl u0=>u0| .inr x4=>(-1))
@[go_sem] def mj:List SV->Option Con:=(pR .order λs_=>(pFn 166 (pE ((pE (.det True (.v (.int .i64 (dS s_)))))))))
theorem lE:P1 Tryz.prog 244 mj:=by
 have hG:=mG (cp xC W2) W2;refine fN hG Tryz.f244 [.o] (bM λO=>(oC (am ((am (λY=>?_))))));dsimp only[an]at Y;refine⟨nbl rfl,(λid st=>bif Nat.beq id 0 then some (LCR (ρ:=Int) (σ:=Unit) 0 [] [] (λV W=>⟨[(0,.rs .order O),(1,.fn 166 [] []),(7,.v (.int .i64 (O.length:Int))),(8,.v (.int .i64 (V:Int)))],[]⟩) (bX O) pT O.length () (O.length<=aN) (λ_=>.ret) (λE=>⟨[(4,.v (.int .i64 E))],[]⟩) st)else none),?_,?_⟩;unfold ae Tryz.f244;simp only[ak,true_and,and_true];refine b_ mixed aJ hG kr (λ_=>rfl) (O.length:Int) rfl fH (λhb0 V W X _ hw hc=>⟨L0,ag _,?_⟩) (λhb0 W hc=>?_);exact bE (jl []);exact bF (jl []);unfold ae Tryz.f244;try unfold dS
 exact zq2
def bC (s_:List Order):Bool:=(decide ((dS s_)>=0))
@[go_sem] def kK:List SV->Option Con:=(pR .order λs_=>(pFn 166 (pE ((pE (.det True (.v (.bool (bC s_)))))))))
theorem kw:P1 Tryz.prog 165 kK:=by
 have hG:=mG (cn [.sl .order,.o] lE W2) W2;refine fN hG Tryz.f165 [.o] (bM λO=>(oC (am ((am (λE=>?_))))));dsimp only[an]at E;refine⟨nbl rfl,L0,ag _,?_⟩;unfold ae Tryz.f165;try unfold bC
 exact zq2
def a9 (d:ah)(c:List Claim):List Order×Int:=letI q0:=ay c;(bif((dI d c) !=0)then([],(dI d c))else(bif(decide ((i64.wrap ((d.reaches.length:Int)*d.hours)) > 1024))then([],2)else(bif(bC q0)then([],270)else(q0,0))))
def ln (d:ah)(c:List Claim):Prop:=((oS d c)/\(((dI d c) !=0)=false->(d.reaches.length<=aN->((decide ((i64.wrap ((d.reaches.length:Int)*d.hours)) > 1024))=false->(jT c)))))
@[go_sem] def AV:List SV->Option Con:=(pD .al λd=>(pR .Q1 λc=>(pE (.det (ln d c) (.tup [.rs .order ((a9 d c).1),.v (.int .i64 ((a9 d c).2))])))))
theorem zC:P1 Tryz.prog 108 AV:=by
 have hG:=mG (cn [.st .al,.sl .Q1] Dz (cn [.sl .Q1] xD (cn [.sl .order,.o] kw W2))) W2;refine fN hG Tryz.f108 [.sl .order,.o] (az λd=>(bM λc=>(am (λE=>?_))));dsimp only[an]at E;unfold ln at E;refine⟨nbl rfl,L0,ag _,?_⟩;unfold ae Tryz.f108;try unfold a9
 exact zq2
end Go.Sx
end
section
namespace Go.Sx
open Go.Lib Go.Proofs Go.Shelf Go.Sort
def oP (f h:Int):aoG:= { hour:=h,index:=f,aol:=true}
def u6 (c:List Claim)(f h:Int):Int:=fS (oP f h) c
def ap_ (c:List Claim):Prop:=c.length<=4096/\∀ a∈c,1<=a.dd/\a.dd<=1073741824
variable {c:List Claim}
theorem Ti{j:Nat}(E:j<c.length)(f h:Int):u6 (c.take (j+1)) f h=u6 (c.take j) f h+(if oP f h=qf c[j]then c[j].dd else 0):=by
 unfold u6;rw[alF E,NY];simp[fS]
theorem Zh(h:ap_ c)(f t:Int):0<=u6 c f t/\u6 c f t<=4398046511104:=by
 have h1:=Ib (oP f t) c h.2;have h2:=h.1;grind [u6]
theorem ap_.take(h:ap_ c)(j:Nat):ap_ (c.take j):=⟨by rw[al0];have:=h.1;omega,λa E=>h.2 a (alX E)⟩
theorem WL {k:Tag}(m:List (k.T×Int))(x:k.T)(y:Int):(cH k .int m x y).length<=m.length+1:=by
 have:=congrArg List.length (zA m x y);rw[alY]at this;show(tx m x y).length<=_;grind
theorem Rz(h:ap_ c):∃ m,aj (dl c) c.length 0 []=.inr m/\SM .bo (λp=>u6 c p.index p.hour) m/\m.length<=c.length:=by
 obtain⟨m,e,V,hn⟩:=Le (step:=dl c) (λj m=>SM .bo (λp=>u6 (c.take j) p.index p.hour) m/\m.length<=j) c.length 0 [] ⟨by simpa[u6,fS]using SM.nil,ak2 _⟩ (λj m _ E ⟨V,hn⟩ =>by
  have E:j<c.length:=by omega
  refine⟨_,rfl,?_,ald (WL _ _ _) (by omega)⟩;rw[iC _ _ E];have h1:=Zh (h.take j) c[j].gl c[j].hour;have h2:=h.2 _ (alR E);have W:=V.get ({ index:=c[j].gl,hour:=c[j].hour}:r5);simp only at W;refine V.put _ (v:=_) ?_ λp=>?_;grind [aA]
  rw[W,aA (by omega) (by omega),Ti E];by_cases O:p=({ index:=c[j].gl,hour:=c[j].hour}:r5)
  subst O;rw[if_pos rfl,if_pos (by rfl)];rw[if_neg O,if_neg (λq=>O (by
   unfold oP qf at q;simp only[aoG.mk.injEq]at q;obtain⟨a,b⟩:=p;grind))]
  omega)
 simp_all
def toO (e:r5×Int):Order:= { hour:=e.1.hour,index:=e.1.index,dd:=e.2,aol:=true}
theorem AW (m:List (r5×Int)):∀ (L:List (r5×Int)) (s:List Order),cB (eb m) L s=.inr (s++L.map toO)
 | [],s=>by simp[cB]
 |x::L,s=>by
  have e:eb m x s=.inr (s++[toO x]):=rfl;simp only[cB,e];rw[AW m L];simp
theorem Jl (m:List (r5×Int)):∀ (L:List (r5×Int)) (s:List Order),s.length+L.length<=100000->okL (eb m) (gb m) L s
 | [],s,_=>trivial
 |x::L,s,h=>by
  have e:eb m x s=.inr (s++[toO x]):=rfl;rw[ak5]at h;refine⟨?_,λs' E=>?_⟩;grind [gb,d8]
  rw[e]at E;simp only[alP]at E;subst E;exact Jl m L _ (by simp;omega)
theorem GO {m:List (r5×Int)}(h:(m.map Prod.fst).Nodup):(m.map toO).Pairwise λx y=>¬K x y:=by
 rw[amS];unfold List.Nodup at h;rw[amS]at h;refine h.imp λ{a b} q k=>q ?_;obtain⟨⟨a1,O⟩,X⟩:=a;obtain⟨⟨E,V⟩,W⟩:=b;have h1:O=V:=k.1;have h2:a1=E:=k.2.1;rw[h1,h2]
theorem GP {x y:Order}(E:x.aol=true)(hy:y.aol=true):Td x y↔olt x y:=by
 grind [Td,olt,AQ,Lb]
theorem sp (l:List Order):(srt ar l).Perm l:=al5 _ _
variable {l:List Order}
theorem Lh(X:∀ x∈l,x.aol=true)(h:l.Pairwise λx y=>¬K x y):(srt ar l).Pairwise olt:=by
 have h1:(srt ar l).Pairwise λx y=>(!(ltOf ar y x))=true:=by
  refine alW (λa b c h1 h2=>?_) (λa b=>?_) l;simp only[alm]at h1 h2 |-;exact kg.ntrans _ _ _ h2 h1;cases q:ltOf ar b a with
  |false=>rfl
  |true=>
   cases O:ltOf ar a b with
   |false=>rfl|true=>have:=kg.trans _ _ _ q O;rw[kg.irrefl]at this;cases this
 have h2:=qA (sp l) h;have V:∀ x∈srt ar l,x.aol=true:=λx hx=>X x ((sp l).mem_iff.1 hx);rw[aly]at h1 h2 |-;intro i j hi W E;have q1:=h1 i j hi W E;have O:=h2 i j hi W E;have q3:¬olt (srt ar l)[j] (srt ar l)[i]:=λq=>by
  have:ltOf ar (srt ar l)[j] (srt ar l)[i]=true:=by
   unfold ltOf;rw[decide_eq_true_eq];exact(vX _ _).2 ((GP (V _ (alR _)) (V _ (alR _))).2 q)
  grind
 exact alD λY=>O (D5 Y q3)
theorem Zi{m:List Order}(O:∀ x∈l,x.aol=true)(h:l.Pairwise λx y=>¬K x y)(E:m.Perm l):srt ar m=srt ar l:=by
 have V:∀ x∈m,x.aol=true:=λx W=>O x (E.mem_iff.1 W);exact al9 (λa b _ _ h1 h2=>absurd h2 (λh2=>by grind [olt])) (Lh V (qA E h)) (Lh O h) ((sp m).trans (E.trans (sp l).symm))
theorem ada(E:∀ x∈l,x.aol=true)(h:l.Pairwise λx y=>¬K x y):apart ar l:=λx O y hy h1 h2=>by
 refine Rx h O hy (D5 (λq=>?_) λq=>?_);unfold ltOf at h1;rw[decide_eq_false_iff_not]at h1;exact h1 ((vX _ _).2 ((GP (E x O) (E y hy)).2 q));unfold ltOf at h2;rw[decide_eq_false_iff_not]at h2;exact h2 ((vX _ _).2 ((GP (E y hy) (E x O)).2 q))
theorem Li (m:List (r5×Int)):∀ x∈m.map toO,x.aol=true:=λx E=>by
 obtain⟨e,_,rfl⟩:=al3.1 E;rfl
theorem GQ {p:aoG}:∀ {c:List Claim},fS p c≠0->∃ a∈c,p=qf a
 | [],h=>absurd rfl h
 |a::r,h=>by
  by_cases q:p=qf a
  grind
  simp only[fS,if_neg q,Int.zero_add]at h;obtain⟨b,E,e⟩:=GQ h;grind
structure aqH (c:List Claim)(o:List Order):Prop where
 out:∀ x∈o,x.aol=true
 asc:o.Pairwise olt
 lit:∀ x∈o,x.dd=u6 c x.index x.hour/\1<=x.dd
 all:∀ f h,u6 c f h≠0->∃ x∈o,x.index=f/\x.hour=h
 src:∀ x∈o,∃ a∈c,a.gl=x.index/\a.hour=x.hour
 len:o.length<=c.length
theorem outs(h:ap_ c):aqH c (ay c):=by
 obtain⟨m,e,V,hn⟩:=Rz h;have Y:ay c=srt ar (m.map toO):=by
  grind [ay,AW]
 rw[Y];have E:∀ x,x∈srt ar (m.map toO)↔∃ q∈m,toO q=x:=λx=>by grind [sp]
 have lit:∀ x∈srt ar (m.map toO),x.dd=u6 c x.index x.hour/\1<=x.dd:=λx O=>by
  obtain⟨q,W,rfl⟩:=(E x).1 O;have:=V.entry W;exact⟨this.1,V.pos q W⟩
 refine⟨λx O=>?_,Lh (Li m) (GO V.nd),lit,λf t X=>?_,λx O=>?_,?_⟩;obtain⟨q,W,rfl⟩:=(E x).1 O;rfl;exact⟨_,(E _).2 ⟨_,V.mem (p:= { index:=f,hour:=t}) X,rfl⟩,rfl,rfl⟩;have h1:=lit x O;obtain⟨a,ha,ea⟩:=GQ (p:=oP x.index x.hour) (c:=c) (by show u6 c _ _≠0;omega);grind [oP,qf]
 rw[(sp _).length_eq,alY];exact hn
theorem Tj(h:ap_ c):jT c:=by
 intro _ m O L hL;obtain⟨X,e,E,hn⟩:=Rz h;rw[e]at O;simp only[alP]at O;subst O;have Y:=hL.length_eq;have h1:=h.1;refine⟨Jl _ L [] (by simp;omega),λs V=>?_⟩;rw[AW]at V;simp only[ak_,alP]at V;subst V;have W:(L.map toO).Perm (X.map toO):=hL.map _;refine⟨ada (Li L) (qA W (GO E.nd)),?_⟩;rw[Zi (Li X) (GO E.nd) W];grind [ay,AW]
end Go.Sx
end
section
namespace Go.Sx
open Go.Proofs
open IntKind (i64)
@[go_sem] def iD (x:T1):List SV:=[.agg (cellsOf .fault x)]
@[go_sem] def Ck:List SV->Option Con:=(pD .al λd=>(pR .order λout=>(pE (.det True (.fn 174 [] [.ep [.rs .order out] 0,.ep (cellsOf .al d) 0])))))
theorem AX:P1 Tryz.prog 111 Ck:=by
 have hG:=mG W2 W2;refine fN hG Tryz.f111 [.o] (az λd=>(bM λout=>(am (λE=>?_))));refine⟨nbl rfl,L0,ag _,?_⟩;unfold ae Tryz.f111;simp only[go_sem,sJ,sK,Nat.reduceBEq,Nat.reduceLeDiff,Nat.reduceAdd,Nat.reduceSub,Nat.reduceMul]
@[go_sem] def gh (out:List Order)(d:ah)(k_0:Nat)(x4:List (r5×Int)):Empty⊕(List (r5×Int)):=letI q1:=out.getD k_0 default;letI q0:=({ index:=(d.zs.getD (Int.toNat (q1.index)) default).reach,hour:=q1.hour}:r5);.inr (cH .bo .int x4 q0 (i64.wrap ((aq .bo .int x4 q0)+q1.dd)))
def i7 (out:List Order)(d:ah)(k_0:Nat)(x4:List (r5×Int)):Prop:=(0<=(out.getD k_0 default).index/\(out.getD k_0 default).index< (d.zs.length:Int))
@[go_sem] def aC (d:ah)(s_1:List T1×List (r5×Int)×List (r5×Bool)×Int)(k_2:Nat)(s_2:List (r5×Bool)×List T1×List (r5×Int)):Empty⊕(List (r5×Bool)×List T1×List (r5×Int)):=letI q2:=d.reaches.getD (Int.toNat s_1.2.2.2) default;letI q7:=(k_2:Int);letI q0:=({ index:=q2.up,hour:=(i64.wrap (q7 - q2.delay))}:r5);letI q4:=({ index:=s_1.2.2.2,hour:=q7}:r5);letI q1:=aq .bo .int s_2.2.2 q4;letI q3:=s_2.2.1++[({ kind:=7,hour:=q7,index:=s_1.2.2.2,dd:=q1,limit:=0}:T1)];letI q5:=fO q2 q1;letI q6:=decide (q1<=1073741824);letI q8:=aq .bo .int s_2.2.2 q0;letI q9:=aq .bo .bool s_2.1 q0;letI qa:=decide (q7<q2.delay);(bif(aq .bo .bool s_2.1 q4)then .inr ((cH .bo .bool s_2.1 q0 true),s_2.2.1,s_2.2.2)else(bif(q1==0)then .inr (s_2.1,s_2.2.1,s_2.2.2)else(bif q6 then(bif((!q5.2.1) ||qa)then .inr ((cH .bo .bool s_2.1 q0 (q9||(!q5.2.1))),q3,s_2.2.2)else .inr (s_2.1,s_2.2.1,(cH .bo .int s_2.2.2 q0 (i64.wrap (q8+(if q5.1<q2.aoI then q2.aoI else q5.1))))))else(bif((!q6) ||qa)then .inr ((cH .bo .bool s_2.1 q0 (q9||(!q6))),q3,s_2.2.2)else .inr (s_2.1,s_2.2.1,(cH .bo .int s_2.2.2 q0 (i64.wrap (q8+(if 0<q2.aoI then q2.aoI else 0)))))))))
def gz (d:ah)(aoM:List (List SV))(s_1:List T1×List (r5×Int)×List (r5×Bool)×Int)(k_2:Nat)(s_2:List (r5×Bool)×List T1×List (r5×Int)):Prop:=letI q1:=d.reaches.getD (Int.toNat s_1.2.2.2) default;letI q6:=(k_2:Int);letI q3:=({ index:=s_1.2.2.2,hour:=q6}:r5);letI q0:=aq .bo .int s_2.2.2 q3;letI q2:=aoM[s_2.2.1.length]? =some (iD ({ kind:=7,hour:=q6,index:=s_1.2.2.2,dd:=q0,limit:=0}:T1));letI q4:=decide (q0<=1073741824);letI q5:=decide (q6<q1.delay);((aq .bo .bool s_2.1 q3)=false->((q0==0)=false->((q4=true->((kV q1 q0)/\(((!(fO q1 q0).2.1) ||q5)=true->q2)))/\(q4=false->(((!q4) ||q5)=true->q2)))))
@[go_sem] def cg (d:ah)(k_1:Nat)(s_1:List T1×List (r5×Int)×List (r5×Bool)×Int):(List T1)⊕(List T1×List (r5×Int)×List (r5×Bool)×Int):=(bif(decide (s_1.2.2.2>=0))then(match aj (aC d s_1) (Int.toNat d.hours) 0 (s_1.2.2.1,s_1.1,s_1.2.1)with| .inl x=>x.elim| .inr s_2=>.inr (s_2.2.1,s_2.2.2,s_2.1,(i64.wrap (s_1.2.2.2 - 1))))else .inl s_1.1)
def i9 (d:ah)(aoM:List (List SV))(k_1:Nat)(s_1:List T1×List (r5×Int)×List (r5×Bool)×Int):Prop:=((decide (s_1.2.2.2>=0))=true->((0<=s_1.2.2.2/\s_1.2.2.2< (d.reaches.length:Int))/\((d.hours<9223372036854775808)/\okI (aC d s_1) (gz d aoM s_1) (Int.toNat d.hours) 0 (s_1.2.2.1,s_1.1,s_1.2.1))))
def cG (out:List Order)(d:ah):List T1:=(match aj (gh out d) out.length 0 ([])with| .inl x=>x.elim| .inr x4=>(match aj (cg d) (d.reaches.length+1) 0 (([]:List T1),x4,[],(i64.wrap ((d.reaches.length:Int) - 1)))with| .inl ape=>ape| .inr s_1=>default))
def iX (out:List Order)(d:ah)(aoM:List (List SV)):Prop:=letI q0:=i64.wrap ((d.reaches.length:Int) - 1);letI q1:=cg d;letI q2:=d.reaches.length+1;letI q3:=gh out d;(out.length<=aN->(okI q3 (i7 out d) out.length 0 ([])/\(∀ x4,aj q3 out.length 0 ([])=.inr x4->(d.reaches.length<=aN->(okI q1 (i9 d aoM) q2 0 (([]:List T1),x4,[],q0)/\(∀ z_,aj q1 q2 0 (([]:List T1),x4,[],q0)≠ .inr z_)/\(∀ ape,aj q1 q2 0 (([]:List T1),x4,[],q0)=.inl ape->(aoM.length=ape.length)))))))
theorem yz (out:List Order)(d:ah)(E:List (List SV))(hp:iX out d E):Ak Tryz.prog 174 (λy=>[y,.ep [.rs .order out] 0,.ep (cellsOf .al d) 0]) [] E:=by
 unfold iX at hp;refine BD mixed aJ (fn:=Tryz.f174) (c:=ae Tryz.f174) kr kr kr kr rfl (n:=0) rfl (G:=λW=>Al [(84,yV)] [] (Dg E W)) (λW hy=>?_) (λargs w=>by kernel_rfl);have hG:=mGY (cp td W2) W2 hy;refine⟨hG,nbl rfl,(λid st=>bif Nat.beq id 0 then some (LCR (ρ:=Empty) (σ:=(List (r5×Int))) 3 [] [0,1,2] (λk_0 Y=>⟨[(0,.os 0),(2,.ep (cellsOf .al d) 0),(4,.os 1),(5,.os 2),(18,.rs .order out),(19,.v (.int .i64 (out.length:Int))),(20,.v (.int .i64 (k_0:Int)))],[.ab (W.1 (([]:List T1).length+1)),.mp .bo .int Y none,.mp .bo .bool ([]) none]⟩) (gh out d) (i7 out d) out.length ([]) (out.length<=aN) ((·.elim)) ((·.elim)) st)else bif Nat.beq id 2 then some (YA (ρ:=(List T1)) (σ:=(List T1×List (r5×Int)×List (r5×Bool)×Int)) 3 [] [0,1,2] (λk_1 O=>⟨[(0,.os 0),(2,.ep (cellsOf .al d) 0),(4,.os 1),(5,.os 2),(8,.v (.int .i64 O.2.2.2))],[.ab (W.1 (O.1.length+1)),.mp .bo .int O.2.1 none,.mp .bo .bool O.2.2.1 none]⟩) (cg d) (i9 d E) (d.reaches.length+1) (([]:List T1),(cy (aj (gh out d) out.length 0 ([]))),[],(i64.wrap ((d.reaches.length:Int) - 1))) (λ_=>.normal) (λX=>⟨[],[.ab (W.1 (X.length+1)),.dead,.dead]⟩) ⟨[],[.ab (W.1 0),.dead,.dead]⟩ st)else none),?_,?_⟩;unfold ae Tryz.f174;simp only[ak,true_and,and_true];refine⟨?_,?_⟩;refine b_ mixed aJ hG kr (λ_=>rfl) (out.length:Int) rfl fH (λhb0 k_0 Y apq hq0 hw hc=>⟨L0,ag _,?_⟩) (λhb0 Y hc=>?_);unfold i7 at hq0;try simp only[hw,ak1]at hq0
 exact oL (jl [0,1,2]);exact oM (jl [0,1,2]);refine IU mixed aJ hG kr (λ_=>rfl) λk_1 O hq1=>⟨(λid st=>bif Nat.beq id 4 then some (LCY (ρ:=Empty) (σ:=(List (r5×Bool)×List T1×List (r5×Int))) 4 [] [0,1,2,3] (λk_2 V=>⟨[(0,.os 0),(2,.ep (cellsOf .al d) 0),(4,.os 1),(5,.os 2),(8,.v (.int .i64 O.2.2.2)),(9,.ptr 3 0),(56,.v (.int .i64 d.hours)),(57,.v (.int .i64 (k_2:Int)))],[.ab (W.1 (V.2.1.length+1)),.mp .bo .int V.2.2 none,.mp .bo .bool V.1 none,.cells (cellsOf .reach (d.reaches.getD (Int.toNat O.2.2.2) (default:Reach)))]⟩) (aC d O) (gz d E O) (Int.toNat d.hours) (O.2.2.1,O.1,O.2.1) (d.hours<9223372036854775808) ((·.elim)) ((·.elim)) ⟨[],[.ab (W.1 0),.dead,.dead,.dead]⟩ st)else none),?_,?_⟩;simp only[ak,true_and,and_true];refine sL mixed aJ hG kr (λ_=>rfl) d.hours rfl id (λhb2 k_2 V hlt2 hq2 hw hc=>⟨L0,ag _,?_⟩) (λhb2 V hc=>?_);unfold gz at hq2;try simp only[hw,ak1]at hq2
 exact oL (jl [0,1,2,3]);exact oM (jl [0,1,2,3]);unfold i9 at hq1;exact M5 (jl [0,1,2]);unfold ae Tryz.f174;exact M5 (jl [0])
@[go_sem] def zD:List SV->Option Con:=(pD .al λd=>(pR .order λl_=>(pE (.det True (.fn 175 [] [.ep [.rs .order l_] 0,.ep (cellsOf .al d) 0])))))
theorem yA:P1 Tryz.prog 112 zD:=by
 have hG:=mG W2 W2;refine fN hG Tryz.f112 [.o] (az λd=>(bM λO=>(am (λE=>?_))));refine⟨nbl rfl,L0,ag _,?_⟩;unfold ae Tryz.f112;simp only[go_sem,sJ,sK,Nat.reduceBEq,Nat.reduceLeDiff,Nat.reduceAdd,Nat.reduceSub,Nat.reduceMul]
@[go_sem] def aX (l_:List Order)(k_0:Nat)(x4:List (r5×Int)×Int):Empty⊕(List (r5×Int)×Int):=letI q1:=l_.getD k_0 default;letI q0:=cH .bo .int x4.1 ({ index:=q1.index,hour:=q1.hour}:r5) (q1.dd);(bif(!q1.aol)then(bif(q1.index==0)then .inr (q0,(i64.wrap (x4.2+q1.dd)))else .inr (q0,x4.2))else .inr (x4.1,x4.2))
@[go_sem] def gA (d:ah)(x4:List (r5×Int)×Int)(k_1:Nat)(k_2:Nat)(k_3:Nat)(s_3:Int):Empty⊕Int:=.inr (i64.wrap (s_3+(aq .bo .int x4.1 ({ index:=(k_2:Int),hour:=(i64.wrap ((k_1:Int) - (k_3:Int)))}:r5))))
@[go_sem] def fC (d:ah)(x4:List (r5×Int)×Int)(k_1:Nat)(k_2:Nat)(s_2:List T1):Empty⊕(List T1):=letI q1:=d.reaches.getD k_2 default;letI q3:=(k_1:Int);letI q4:=(k_2:Int);letI q2:=aq .bo .int x4.1 ({ index:=q4,hour:=q3}:r5);letI q0:=s_2++[({ kind:=1,hour:=q3,index:=q4,dd:=q2,limit:=q1.cap}:T1)];(match aj (gA d x4 k_1 k_2) (Int.toNat (q1.delay)) 0 0 with| .inl x=>x.elim| .inr s_3=>(bif(decide (q2 > q1.cap))then(bif(decide (s_3 > q1.ao7))then .inr (q0++[({ kind:=3,hour:=q3,index:=q4,dd:=s_3,limit:=q1.ao7}:T1)])else .inr q0)else(bif(decide (s_3 > q1.ao7))then .inr (s_2++[({ kind:=3,hour:=q3,index:=q4,dd:=s_3,limit:=q1.ao7}:T1)])else .inr s_2)))
def il (d:ah)(aoM:List (List SV))(x4:List (r5×Int)×Int)(k_1:Nat)(k_2:Nat)(s_2:List T1):Prop:=letI q1:=d.reaches.getD k_2 default;letI q4:=(k_1:Int);letI q5:=(k_2:Int);letI q0:=aq .bo .int x4.1 ({ index:=q5,hour:=q4}:r5);letI q2:=({ kind:=1,hour:=q4,index:=q5,dd:=q0,limit:=q1.cap}:T1);letI q3:=decide (q0 > q1.cap);((q1.delay<9223372036854775808)/\(∀ s_3,aj (gA d x4 k_1 k_2) (Int.toNat (q1.delay)) 0 0=.inr s_3->((q3=true->((aoM[s_2.length]? =some (iD q2))/\(((decide (s_3 > q1.ao7))=true->(aoM[(s_2++[q2]).length]? =some (iD ({ kind:=3,hour:=q4,index:=q5,dd:=s_3,limit:=q1.ao7}:T1))))/\((decide (s_3 > q1.ao7))=false->((decide (s_3 > q1.ao7))=false)))))/\(q3=false->((q3=false)/\(((decide (s_3 > q1.ao7))=true->(aoM[s_2.length]? =some (iD ({ kind:=3,hour:=q4,index:=q5,dd:=s_3,limit:=q1.ao7}:T1))))/\((decide (s_3 > q1.ao7))=false->((decide (s_3 > q1.ao7))=false))))))))
@[go_sem] def eE (d:ah)(x4:List (r5×Int)×Int)(k_1:Nat)(s_1:List T1):Empty⊕(List T1):=(match aj (fC d x4 k_1) d.reaches.length 0 s_1 with| .inl x=>x.elim| .inr s_2=>.inr s_2)
def im (d:ah)(aoM:List (List SV))(x4:List (r5×Int)×Int)(k_1:Nat)(s_1:List T1):Prop:=(d.reaches.length<=aN->okI (fC d x4 k_1) (il d aoM x4 k_1) d.reaches.length 0 s_1)
def dN (l_:List Order)(d:ah):List T1:=(match aj (aX l_) l_.length 0 ([],0)with| .inl x=>x.elim| .inr x4=>(match aj (eE d x4) (Int.toNat d.hours) 0 ([]:List T1)with| .inl x=>x.elim| .inr s_1=>(bif(decide (x4.2 > d.aoE.start))then(s_1++[({ kind:=4,hour:=0,index:=0,dd:=x4.2,limit:=d.aoE.start}:T1)])else s_1)))
def gX (l_:List Order)(d:ah)(aoM:List (List SV)):Prop:=letI q0:=Int.toNat d.hours;(l_.length<=aN->(∀ x4,aj (aX l_) l_.length 0 ([],0)=.inr x4->((d.hours<9223372036854775808)/\okI (eE d x4) (im d aoM x4) q0 0 ([]:List T1)/\(∀ s_1,aj (eE d x4) q0 0 ([]:List T1)=.inr s_1->(((decide (x4.2 > d.aoE.start))=true->((aoM[s_1.length]? =some (iD ({ kind:=4,hour:=0,index:=0,dd:=x4.2,limit:=d.aoE.start}:T1)))/\(aoM.length=(s_1++[({ kind:=4,hour:=0,index:=0,dd:=x4.2,limit:=d.aoE.start}:T1)]).length)))/\((decide (x4.2 > d.aoE.start))=false->(aoM.length=s_1.length)))))))
theorem wD (E:List Order)(d:ah)(O:List (List SV))(hp:gX E d O):Ak Tryz.prog 175 (λy=>[y,.ep [.rs .order E] 0,.ep (cellsOf .al d) 0]) [] O:=by
 unfold gX at hp;refine BD mixed aJ (fn:=Tryz.f175) (c:=ae Tryz.f175) kr kr kr kr rfl (n:=0) rfl (G:=λr_=>Al [] [] (Dg O r_)) (λr_ hy=>?_) (λargs w=>by kernel_rfl);have hG:=mGY W2 W2 hy;refine⟨hG,nbl rfl,(λid st=>bif Nat.beq id 0 then some (LCR (ρ:=Empty) (σ:=(List (r5×Int)×Int)) 2 [] [0,1] (λk_0 Y=>⟨[(0,.os 0),(2,.ep (cellsOf .al d) 0),(4,.os 1),(5,.v (.int .i64 Y.2)),(15,.rs .order E),(16,.v (.int .i64 (E.length:Int))),(17,.v (.int .i64 (k_0:Int)))],[.ab (r_.1 (([]:List T1).length+1)),.mp .bo .int Y.1 none]⟩) (aX E) pT E.length ([],0) (E.length<=aN) ((·.elim)) ((·.elim)) st)else bif Nat.beq id 2 then some (LCY (ρ:=Empty) (σ:=(List T1)) 2 [] [0,1] (λW X=>⟨[(0,.os 0),(2,.ep (cellsOf .al d) 0),(4,.os 1),(5,.v (.int .i64 (cy (aj (aX E) E.length 0 ([],0))).2)),(41,.v (.int .i64 d.hours)),(42,.v (.int .i64 (W:Int)))],[.ab (r_.1 (X.length+1)),.mp .bo .int (cy (aj (aX E) E.length 0 ([],0))).1 none]⟩) (eE d (cy (aj (aX E) E.length 0 ([],0)))) (im d O (cy (aj (aX E) E.length 0 ([],0)))) (Int.toNat d.hours) ([]:List T1) (d.hours<9223372036854775808) ((·.elim)) ((·.elim)) ⟨[],[.ab (r_.1 0),.dead]⟩ st)else none),?_,?_⟩;unfold ae Tryz.f175;simp only[ak,true_and,and_true];refine⟨?_,?_⟩;refine b_ mixed aJ hG kr (λ_=>rfl) (E.length:Int) rfl fH (λhb0 k_0 Y apq _ hw hc=>⟨L0,ag _,?_⟩) (λhb0 Y hc=>?_);exact oL (jl [0,1]);exact oM (jl [0,1]);refine sL mixed aJ hG kr (λ_=>rfl) d.hours rfl id (λhb1 W X apU hq1 hw hc=>⟨(λid st=>bif Nat.beq id 4 then some (LCY (ρ:=Empty) (σ:=(List T1)) 2 [] [0,1] (λV s_2=>⟨[(0,.os 0),(2,.ep (cellsOf .al d) 0),(4,.os 1),(5,.v (.int .i64 (cy (aj (aX E) E.length 0 ([],0))).2)),(8,.v (.int .i64 (W:Int))),(41,.v (.int .i64 d.hours)),(42,.v (.int .i64 (W:Int))),(46,.rs .reach d.reaches),(47,.v (.int .i64 (d.reaches.length:Int))),(48,.v (.int .i64 (V:Int)))],[.ab (r_.1 (s_2.length+1)),.mp .bo .int (cy (aj (aX E) E.length 0 ([],0))).1 none]⟩) (fC d (cy (aj (aX E) E.length 0 ([],0))) W) (il d O (cy (aj (aX E) E.length 0 ([],0))) W) d.reaches.length X (d.reaches.length<=aN) ((·.elim)) ((·.elim)) ⟨[],[.ab (r_.1 0),.dead]⟩ st)else none),?_,?_⟩) (λhb1 X hc=>?_);simp only[ak,true_and,and_true];refine sL mixed aJ hG kr (λ_=>rfl) (d.reaches.length:Int) rfl fH (λhb2 V s_2 hlt2 hq2 hw hc=>⟨(λid st=>bif Nat.beq id 6 then some (LCR (ρ:=Empty) (σ:=Int) 3 [] [0,1,2] (λk_3 s_3=>⟨[(0,.os 0),(2,.ep (cellsOf .al d) 0),(4,.os 1),(5,.v (.int .i64 (cy (aj (aX E) E.length 0 ([],0))).2)),(8,.v (.int .i64 (W:Int))),(9,.v (.int .i64 (V:Int))),(10,.ptr 2 0),(11,.v (.int .i64 s_3)),(41,.v (.int .i64 d.hours)),(42,.v (.int .i64 (W:Int))),(46,.rs .reach d.reaches),(47,.v (.int .i64 (d.reaches.length:Int))),(48,.v (.int .i64 (V:Int))),(54,.v (.int .i64 ((d.reaches.getD V (default:Reach)).delay))),(55,.v (.int .i64 (k_3:Int)))],[.ab (r_.1 (s_2.length+1)),.mp .bo .int (cy (aj (aX E) E.length 0 ([],0))).1 none,.cells (cellsOf .reach (d.reaches.getD V (default:Reach)))]⟩) (gA d (cy (aj (aX E) E.length 0 ([],0))) W V) pT (Int.toNat ((d.reaches.getD V (default:Reach)).delay)) 0 ((d.reaches.getD V (default:Reach)).delay<9223372036854775808) ((·.elim)) ((·.elim)) st)else none),?_,?_⟩) (λhb2 s_2 hc=>?_);simp only[ak,true_and,and_true];refine b_ mixed aJ hG kr (λ_=>rfl) ((d.reaches.getD V (default:Reach)).delay) rfl id (λhb3 k_3 s_3 hlt3 _ hw hc=>⟨L0,ag _,?_⟩) (λhb3 s_3 hc=>?_);exact oL (jl [0,1,2]);exact oM (jl [0,1,2]);unfold il at hq2;try simp only[hw,ak1]at hq2
 exact oL (jl [0,1]);exact oM (jl [0,1]);unfold im at hq1;try simp only[hw,ak1]at hq1
 exact oL (jl [0,1]);exact oM (jl [0,1]);unfold ae Tryz.f175;exact M5 (jl [0])
@[go_sem] def ef (out:List Order)(d:ah)(z_0:T1)(x4:Int×Int×Int×Int×Int):Empty⊕(Int×Int×Int×Int×Int):=(bif(((x4.1==0)&&((x4.2.1==0)&&((x4.2.2.1==0)&&((x4.2.2.2.1==0)&&(x4.2.2.2.2==0))))) ||(decide ((fj ([(bj z_0.hour x4.2.1),(bj x4.2.2.1 z_0.index)])) <0)))then .inr (z_0.kind,z_0.hour,z_0.index,z_0.dd,z_0.limit)else .inr (x4.1,x4.2.1,x4.2.2.1,x4.2.2.2.1,x4.2.2.2.2))
def xE (out:List Order)(d:ah)(z_0:T1)(x4:Int×Int×Int×Int×Int):Prop:=True
def jk (out:List Order)(d:ah):T1:=(match cB (ef out d) (cG out d) (0,0,0,0,0)with| .inl x=>x.elim| .inr x4=>({ kind:=x4.1,hour:=x4.2.1,index:=x4.2.2.1,dd:=x4.2.2.2.1,limit:=x4.2.2.2.2}:T1))
def pb (out:List Order)(d:ah):Prop:=(iX out d ((cG out d).map iD))
@[go_sem] noncomputable def AY:List SV->Option Con:=(pFn 174 (pXR .order λout=>(pX .al λd=>(pE ((pE (.det (pb out d) (.agg (cellsOf .fault (jk out d))))))))))
variable {p:Prop}
theorem ahO(h:p:=by simp only[go_sem,e0_0,e0_1]):p:=h
variable {l0:List Nat}
theorem ahP(a0:JL l0)(h:JL l0->p:=by intro ja;simp only[go_sem,ef,psT,iD,alr,ak_];all_goals exact uM ja):p:=h a0
theorem zF:P1 Tryz.prog 110 AY:=by
 have hG:=mG (cp eX (cn [.sl .int] tj W2)) W2;refine fN hG Tryz.f110 [.st .fault] (oC (Ao λout=>(gu λd=>(am ((am (λO=>?_)))))));dsimp only[an]at O;unfold pb at O;refine⟨nbl rfl,(λid st=>bif Nat.beq id 0 then some (LC (ρ:=Empty) (σ:=Int×Int×Int×Int×Int) (lk 2 st.t=.ptr 0 0/\lk 4 st.t=.fn 174 [] [.ep [.rs .order out] 0,.ep (cellsOf .al d) 0]/\st.h=[.cells [.v (.int .i64 0),.v (.int .i64 0),.v (.int .i64 0),.v (.int .i64 0),.v (.int .i64 0)]]/\iX out d ((cG out d).map iD)) (cB (ef out d) (cG out d) (0,0,0,0,0)) (λx=>x.elim) (λx=>x.elim) (λE=>⟨[(2,.ptr 0 0)],[.cells [.v (.int .i64 E.1),.v (.int .i64 E.2.1),.v (.int .i64 E.2.2.1),.v (.int .i64 E.2.2.2.1),.v (.int .i64 E.2.2.2.2)]]⟩))else none),?_,?_⟩
 ·unfold ae Tryz.f110;simp only[ak,true_and,and_true]
  ·refine sb mixed aJ hG (by decide) (by decide) kr kr λst Y V O=>?_;simp only[go_sem,Nat.reduceBEq,ak3]at V;subst V;obtain⟨t,h⟩:=st;dsimp only[LC]at O;obtain⟨e0_0,e0_1,rfl,hb0⟩:=O;refine⟨174,[.ep [.rs .order out] 0,.ep (cellsOf .al d) 0],T1,_,_,(cG out d),iD,(ef out d),(xE out d),_,(0,0,0,0,0),_,_,_,[(2,.ptr 0 0)],(λE=>[.cells [.v (.int .i64 E.1),.v (.int .i64 E.2.1),.v (.int .i64 E.2.2.1),.v (.int .i64 E.2.2.2.1),.v (.int .i64 E.2.2.2.2)]]),(λx=>x.elim),[0],?_,rfl,DX _ _ λ_ _ _=>trivial,nbl rfl,?_,yz out d _ hb0,λW E X=>⟨rfl,L0,λl=>?_,λl=>?_,?_⟩,λE=>?_,λy=>?_⟩;exact ahO
   ·simp only[go_sem,sH,jY,alp,ame,ak_,ali,alM,e0_0,e0_1];all_goals (first|done|decide|(repeat' (first|refine And.intro ?_ ?_|rfl|decide)))
   simp only[ak,and_self,true_and,and_true];simp only[ak,and_self,true_and,and_true]
   skip
   exact ahP (jl [0]);exact db (jl [0]);exact db (jl [0])
 unfold ae Tryz.f110;try unfold jk
 exact zq2
@[go_sem] def kx (d:ah)(c:List Claim)(z_0:T1)(x4:Unit):(Int×Int×Int×Int×Int)⊕Unit:=.inl (z_0.kind,z_0.hour,z_0.index,z_0.dd,z_0.limit)
def xF (d:ah)(c:List Claim)(z_0:T1)(x4:Unit):Prop:=True
def bU (d:ah)(c:List Claim):List Order×T1×Int:=letI q1:=a9 d c;letI q0:=aO d (q1.1);(bif(q1.2 !=0)then([],({ kind:=0,hour:=0,index:=0,dd:=0,limit:=0}:T1),q1.2)else(bif(q0.2.2 !=0)then([],({ kind:=0,hour:=0,index:=0,dd:=0,limit:=0}:T1),q0.2.2)else(bif(!q0.2.1)then([],(jk (q1.1) d),0)else(match cB (kx d c) (dN (q0.1) d) ()with| .inl u0=>([],({ kind:=u0.1,hour:=u0.2.1,index:=u0.2.2.1,dd:=u0.2.2.2.1,limit:=u0.2.2.2.2}:T1),0) | .inr x4=>(q0.1,({ kind:=0,hour:=0,index:=0,dd:=0,limit:=0}:T1),0)))))
def jF (d:ah)(c:List Claim):Prop:=letI q1:=a9 d c;letI q0:=aO d (q1.1);((ln d c)/\((q1.2 !=0)=false->((pa d (q1.1))/\((q0.2.2 !=0)=false->(((!q0.2.1)=true->(pb (q1.1) d))/\((!q0.2.1)=false->(gX (q0.1) d ((dN (q0.1) d).map iD))))))))
@[go_sem] def AZ:List SV->Option Con:=(pD .al λd=>(pR .Q1 λc=>(pE (.det (jF d c) (.tup [.rs .order ((bU d c).1),.agg (cellsOf .fault ((bU d c).2.1)),.v (.int .i64 ((bU d c).2.2))])))))
theorem ahQ(h:p:=by simp only[go_sem,e0_0,e0_1,e0_2,e0_3]):p:=h
theorem ahR(a0:JL l0)(h:JL l0->p:=by intro ja;simp only[go_sem,kx,psT,iD,alr,ak_];all_goals exact uM ja):p:=h a0
theorem tt:P1 Tryz.prog 57 AZ:=by
 have hG:=mG (cn [.st .al,.sl .Q1] zC (cn [.st .al,.sl .order] DM (cp zF (cn [.st .al,.sl .order] AX (cn [.st .al,.sl .order] yA W2))))) W2;refine fN hG Tryz.f57 [.sl .order,.st .fault,.o] (az λd=>(bM λc=>(am (λV=>?_))));dsimp only[an]at V;unfold jF at V;refine⟨nbl rfl,(λid st=>bif Nat.beq id 0 then some (LC (ρ:=Int×Int×Int×Int×Int) (σ:=Unit) (lk 4 st.t=.ptr 1 0/\lk 5 st.t=.ptr 2 0/\lk 6 st.t=.ptr 3 0/\lk 39 st.t=.fn 175 [] [.ep [.rs .order ((aO d ((a9 d c).1)).1)] 0,.ep (cellsOf .al d) 0]/\st.h=[.cells (cellsOf .al d),.cells [.rs .order ((aO d ((a9 d c).1)).1)],.cells [.v (.int .i64 0),.v (.int .i64 0),.v (.int .i64 0),.v (.int .i64 0),.v (.int .i64 0)],.cells [.v (.int .i64 ((aO d ((a9 d c).1)).2.2))]]/\gX ((aO d ((a9 d c).1)).1) d ((dN ((aO d ((a9 d c).1)).1) d).map iD)) (cB (kx d c) (dN ((aO d ((a9 d c).1)).1) d) ()) (λ_=>.ret) (λE=>⟨[(4,.ptr 1 0),(5,.ptr 2 0),(6,.ptr 3 0)],[.dead,.cells [.v (.slice none 0 0)],.cells [.v (.int .i64 E.1),.v (.int .i64 E.2.1),.v (.int .i64 E.2.2.1),.v (.int .i64 E.2.2.2.1),.v (.int .i64 E.2.2.2.2)],.cells [.v (.int .i64 0)]]⟩) (λO=>⟨[(4,.ptr 1 0),(5,.ptr 2 0),(6,.ptr 3 0)],[.dead,.cells [.rs .order ((aO d ((a9 d c).1)).1)],.cells [.v (.int .i64 0),.v (.int .i64 0),.v (.int .i64 0),.v (.int .i64 0),.v (.int .i64 0)],.cells [.v (.int .i64 ((aO d ((a9 d c).1)).2.2))]]⟩))else none),?_,?_⟩
 ·unfold ae Tryz.f57;simp only[ak,true_and,and_true]
  ·refine sb mixed aJ hG (by decide) (by decide) kr kr λst lc W V=>?_;simp only[go_sem,Nat.reduceBEq,ak3]at W;subst W;obtain⟨t,h⟩:=st;dsimp only[LC]at V;obtain⟨e0_0,e0_1,e0_2,e0_3,rfl,hb0⟩:=V;refine⟨175,[.ep [.rs .order ((aO d ((a9 d c).1)).1)] 0,.ep (cellsOf .al d) 0],T1,_,_,(dN ((aO d ((a9 d c).1)).1) d),iD,(kx d c),(xF d c),_,(),_,_,_,[(4,.ptr 1 0),(5,.ptr 2 0),(6,.ptr 3 0)],(λO=>[.dead,.cells [.rs .order ((aO d ((a9 d c).1)).1)],.cells [.v (.int .i64 0),.v (.int .i64 0),.v (.int .i64 0),.v (.int .i64 0),.v (.int .i64 0)],.cells [.v (.int .i64 ((aO d ((a9 d c).1)).2.2))]]),(λE=>[.dead,.cells [.v (.slice none 0 0)],.cells [.v (.int .i64 E.1),.v (.int .i64 E.2.1),.v (.int .i64 E.2.2.1),.v (.int .i64 E.2.2.2.1),.v (.int .i64 E.2.2.2.2)],.cells [.v (.int .i64 0)]]),[0,1,2,3],?_,rfl,DX _ _ λ_ _ _=>trivial,nbl rfl,?_,wD ((aO d ((a9 d c).1)).1) d _ hb0,λX O Y=>⟨rfl,L0,λl=>?_,λl=>?_,?_⟩,λO=>?_,λy=>?_⟩;exact ahQ
   ·simp only[go_sem,sH,jY,alp,ame,ak_,ali,alM,e0_0,e0_1,e0_2,e0_3];all_goals (first|done|decide|(repeat' (first|refine And.intro ?_ ?_|rfl|decide)))
   simp only[ak,and_self,true_and,and_true];simp only[ak,and_self,true_and,and_true]
   skip
   exact ahR (jl [0,1,2,3]);exact db (jl [0,1,2,3]);exact db (jl [0,1,2,3])
 unfold ae Tryz.f57;try unfold bU
 exact zq2
def bv (d:ah)(c:List Claim):List Order×Bool×Int:=letI q0:=bU d c;(q0.1,((q0.2.2==0)&&(((q0.2.1).kind==0)&&(((q0.2.1).hour==0)&&(((q0.2.1).index==0)&&(((q0.2.1).dd==0)&&((q0.2.1).limit==0)))))),q0.2.2)
def iO (d:ah)(c:List Claim):Prop:=(jF d c)
@[go_sem] def Cl:List SV->Option Con:=(pD .al λd=>(pR .Q1 λc=>(pE (.det (iO d c) (.tup [.rs .order ((bv d c).1),.v (.bool ((bv d c).2.1)),.v (.int .i64 ((bv d c).2.2))])))))
theorem t6:P1 Tryz.prog 18 Cl:=by
 have hG:=mG (cn [.st .al,.sl .Q1] tt W2) W2;refine fN hG Tryz.f18 [.sl .order,.o,.o] (az λd=>(bM λc=>(am (λE=>?_))));dsimp only[an]at E;unfold iO at E;refine⟨nbl rfl,L0,ag _,?_⟩;unfold ae Tryz.f18;try unfold bv
 exact zq2
def bG (d:ah)(c:List Claim):T1×Bool×Int:=letI q1:=bU d c;letI q0:=q1.2.1;(q0,(!((q0.kind==0)&&((q0.hour==0)&&((q0.index==0)&&((q0.dd==0)&&(q0.limit==0)))))),q1.2.2)
def lp (d:ah)(c:List Claim):Prop:=(jF d c)
@[go_sem] def A0:List SV->Option Con:=(pD .al λd=>(pR .Q1 λc=>(pE (.det (lp d c) (.tup [.agg (cellsOf .fault ((bG d c).1)),.v (.bool ((bG d c).2.1)),.v (.int .i64 ((bG d c).2.2))])))))
theorem tu:P1 Tryz.prog 34 A0:=by
 have hG:=mG (cn [.st .al,.sl .Q1] tt W2) W2;refine fN hG Tryz.f34 [.st .fault,.o,.o] (az λd=>(bM λc=>(am (λE=>?_))));dsimp only[an]at E;unfold lp at E;refine⟨nbl rfl,L0,ag _,?_⟩;unfold ae Tryz.f34;try unfold bG
 exact zq2
abbrev UM:=List (r5×Bool)
abbrev WM:=List (r5×Int)
def sl (a b:Int):r5:= { index:=a,hour:=b}
def ltF (k:Nat)(r n:Int):T1:= { kind:=7,hour:=(k:Int),index:=r,dd:=n,limit:=0}
section
variable {d:ah}{s1:List T1×WM×UM×Int}{k:Nat}{u:UM}{F:List T1}{w:WM}
theorem Tk (O:aq .bo .bool u (sl s1.2.2.2 k)=true):∃ E,aC d s1 k (u,F,w)=.inr (E,F,w):=by
 simp_all [aC,sl]
theorem Cm (E:aq .bo .bool u (sl s1.2.2.2 k)=false)(hn:aq .bo .int w (sl s1.2.2.2 k)=0):aC d s1 k (u,F,w)=.inr (u,F,w):=by
 simp_all [aC,sl]
theorem NZ (O:aq .bo .bool u (sl s1.2.2.2 k)=false)(hn:aq .bo .int w (sl s1.2.2.2 k)≠0)
  (E:(ax (rch d s1.2.2.2) (aq .bo .int w (sl s1.2.2.2 k))).2=false\/(k:Int) < (rch d s1.2.2.2).delay):
  ∃ X,aC d s1 k (u,F,w)=.inr (X,F++[ltF k s1.2.2.2 (aq .bo .int w (sl s1.2.2.2 k))],w):=by
 unfold aC ltF;unfold sl at O hn E |-;simp only[O,cond_false];generalize Y:aq .bo .int w ({ index:=s1.2.2.2,hour:=(k:Int)}:r5)=n at hn E |-;have W:(n==0)=false:=by grind
 rw[W,cond_false];unfold ax at E;by_cases V:n<=1073741824
 rw[decide_eq_true V,cond_true];have h1:((n==0) ||decide (n > 1073741824))=false:=by grind
 rw[h1,cond_false]at E;have h2:((!(fO (d.reaches.getD (Int.toNat s1.2.2.2) (default:Reach)) n).2.1) ||(decide ((k:Int) < (d.reaches.getD (Int.toNat s1.2.2.2) (default:Reach)).delay)))=true:=by
  grind
 rw[h2,cond_true];grind
 simp_all [decide_eq_false]
theorem Cn (O:aq .bo .bool u (sl s1.2.2.2 k)=false)(hn:aq .bo .int w (sl s1.2.2.2 k)≠0)
  (E:(ax (rch d s1.2.2.2) (aq .bo .int w (sl s1.2.2.2 k))).2=true) (X:¬ (k:Int) < (rch d s1.2.2.2).delay):
  aC d s1 k (u,F,w)=.inr (u,F,cH .bo .int w (sl (rch d s1.2.2.2).up (i64.wrap ((k:Int) - (rch d s1.2.2.2).delay))) (i64.wrap (aq .bo .int w (sl (rch d s1.2.2.2).up (i64.wrap ((k:Int) - (rch d s1.2.2.2).delay)))+(ax (rch d s1.2.2.2) (aq .bo .int w (sl s1.2.2.2 k))).1))):=by
 unfold aC;unfold sl at O hn E |-;simp only[O,cond_false];generalize W:aq .bo .int w ({ index:=s1.2.2.2,hour:=(k:Int)}:r5)=n at hn E |-;have V:(n==0)=false:=by grind
 rw[V,cond_false];unfold ax at E |-;grind
theorem WN:∃ O T w',aC d s1 k (u,F,w)=.inr (O,F++T,w')/\∀ f∈T,f.kind=7:=by
 cases E:aq .bo .bool u (sl s1.2.2.2 k)with
 |true=>obtain⟨O,e⟩:=Tk (F:=F) (w:=w) E;exact⟨O,[],w,by rw[e,ali],by simp⟩
 |false=>
  by_cases hn:aq .bo .int w (sl s1.2.2.2 k)=0
  exact⟨u,[],w,by rw[Cm E hn,ali],by simp⟩;by_cases V:(ax (rch d s1.2.2.2) (aq .bo .int w (sl s1.2.2.2 k))).2=false\/(k:Int) < (rch d s1.2.2.2).delay
  obtain⟨O,e⟩:=NZ (F:=F) E hn V;grind [ltF]
  have h1:(ax (rch d s1.2.2.2) (aq .bo .int w (sl s1.2.2.2 k))).2=true:=by
   grind
  exact⟨u,[],_,by rw[Cn E hn h1 (λq=>V (.inr q)),ali],by simp⟩
end
section
variable {d:ah}{s1:List T1×WM×UM×Int}{items:List (List SV)}
theorem A2:∀ (n k:Nat) (u:UM) (F:List T1) (w:WM),∃ E T w',aj (aC d s1) n k (u,F,w)=.inr (E,F++T,w')/\∀ f∈T,f.kind=7
 |0,k,u,F,w=>⟨u,[],w,by rw[ali];rfl,by simp⟩
 |n+1,k,u,F,w=>by
  obtain⟨O,V,w1,W,h1⟩:=WN (d:=d) (s1:=s1) (k:=k) (u:=u) (F:=F) (w:=w);obtain⟨u2,X,Y,e2,h2⟩:=A2 n (k+1) O (F++V) w1;grind [aj]
variable {F:List T1}
theorem D6{f:T1}(h:(F++[f]).map iD<+:items):items[F.length]? =some (iD f):=by
 obtain⟨t,rfl⟩:=h;simp
theorem Zj{k:Nat}{u:UM}{w:WM}(h:∀ f,(∃ W w',aC d s1 k (u,F,w)=.inr (W,F++[f],w'))->items[F.length]? =some (iD f)):gz d items s1 k (u,F,w):=by
 intro V hn;simp only at V hn;refine⟨λE=>⟨La _ _,λO=>h _ ?_⟩,λE O=>h _ ?_⟩;unfold aC;simp only at E O;simp only[V,hn,E,O,cond_false,cond_true];grind
 unfold aC;simp only at E O;simp only[V,hn,E,O,cond_false,cond_true];simp_all
theorem WO:∀ (n k:Nat) (u:UM) (F:List T1) (w:WM),(∀ O V E,aj (aC d s1) n k (u,F,w)=.inr (O,V,E)->V.map iD<+:items)->okI (aC d s1) (gz d items s1) n k (u,F,w)
 |0,_,_,_,_,_=>trivial
 |n+1,k,u,F,w,h=>by
  refine⟨Zj λf ⟨W,w',e⟩ =>?_,λs' e=>?_⟩;obtain⟨O,X,E,Y,_⟩:=A2 (d:=d) (s1:=s1) n (k+1) W (F++[f]) w';have:=h O (F++[f]++X) E (by grind [aj]);refine D6 (am0 ?_ this);grind
  obtain⟨W,F',w'⟩:=s';exact WO n (k+1) W F' w' λO V E Y=>h O V E (by grind [aj])
end
section
variable {d:ah}{items:List (List SV)}
variable {F:List T1}{w:WM}
theorem WP{j:Nat}{u:UM}{i:Int}(h:i<0):cg d j (F,w,u,i)=.inl F:=by
 simp_all [cg,decide_eq_false]
theorem N0{j:Nat}{F':List T1}{w':WM}{u E:UM}{i:Int}(O:0<=i)(h1:i<=1000000)(e:aj (aC d (F,w,u,i)) (Int.toNat d.hours) 0 (u,F,w)=.inr (E,F',w')):
  cg d j (F,w,u,i)=.inr (F',w',E,i - 1):=by
 unfold cg;simp only;rw[decide_eq_true (by omega),cond_true,e];grind [aA]
theorem D7:∀ (m n j:Nat) (F:List T1) (w:WM) (u:UM),m<n->m<=1000000->∃ T,aj (cg d) n j (F,w,u,(m:Int) - 1)=.inl (F++T)/\∀ f∈T,f.kind=7
 |0,n+1,j,F,w,u,_,_=>⟨[],by grind [aj,WP],by simp⟩
 |m+1,n+1,j,F,w,u,h,hm=>by
  obtain⟨W,E,w1,X,h1⟩:=A2 (d:=d) (s1:=(F,w,u,((m+1:Nat):Int) - 1)) (Int.toNat d.hours) 0 u F w;obtain⟨O,Y,h2⟩:=D7 m n (j+1) (F++E) w1 W (by omega) (by omega);refine⟨E++O,?_,λf V=>(alu.1 V).elim (h1 f) (h2 f)⟩;simp only[aj];grind [N0]
theorem RA (Y:d.hours<=4096):∀ (m n j:Nat) (F:List T1) (w:WM) (u:UM),m<n->m<=1000000->m<=d.reaches.length->(∀ x,aj (cg d) n j (F,w,u,(m:Int) - 1)=.inl x->x.map iD<+:items)->
  okI (cg d) (i9 d items) n j (F,w,u,(m:Int) - 1)
 |0,n+1,j,F,w,u,_,_,_,h=>by
  refine⟨λq=>?_,λs' e=>?_⟩;grind
  grind [WP]
 |m+1,n+1,j,F,w,u,hmn,hm,hR,h=>by
  obtain⟨W,X,w1,V,h1⟩:=A2 (d:=d) (s1:=(F,w,u,((m+1:Nat):Int) - 1)) (Int.toNat d.hours) 0 u F w;have O:=N0 (j:=j) (d:=d) (by omega) (by omega) V;rw[show((m+1:Nat):Int) - 1 - 1=(m:Int) - 1 by omega]at O;refine⟨λq=>⟨by grind,by omega,WO _ _ _ _ _ λu2 F2 w2 E=>?_⟩,λs' e=>?_⟩;simp only at E;rw[V]at E;simp only[alP,an8]at E;obtain⟨rfl,rfl,rfl⟩:=E;obtain⟨T2,e4,_⟩:=D7 (d:=d) m n (j+1) (F++X) w1 W (by omega) (by omega);have:=h _ (by simp only[aj];rw[O];exact e4);refine am0 ?_ this;grind
  rw[O]at e;simp only[alP]at e;subst e;exact RA Y m n (j+1) (F++X) w1 W (by omega) (by omega) (by omega) λx hx=>h x (by grind [aj])
end
def Eqv (w:WM)(m:Mp):Prop:= ∀ a b,aq .bo .int w (sl a b)=aq .aok .int m (a,b)
theorem GR {a b x y:Int}:(sl x y=sl a b)=((x,y)=(a,b)):=by
 grind [sl]
theorem Eqv.put {w:WM}{m:Mp}(h:Eqv w m)(a b v:Int):Eqv (cH .bo .int w (sl a b) v) (cH .aok .int m (a,b) v):=λx y=>by
 rw[oe,oe,h];simp_all [GR]
theorem xG {ρ σ τ:Type}(step:τ->σ->ρ⊕σ):∀ (A B:List τ) (s:σ),cB step (A++B) s=match cB step A s with| .inl y=>.inl y| .inr s'=>cB step B s'
 | [],B,s=>rfl
 |x::A,B,s=>by
  simp only[alr,cB];cases h:step x s with
  |inl y=>rfl|inr s'=>exact xG step A B s'
section
variable {d:ah}{out:List Order}
theorem aau:∀ (n k:Nat) (w:WM) (m E:Mp),Eqv w m->aj (bT d out) n k m=.inr E->∃ w',aj (gh out d) n k w=.inr w'/\Eqv w' E
 |0,k,w,m,E,h,e=>by
  grind [aj]
 |n+1,k,w,m,E,h,e=>by
  simp only[aj]at e |-;cases O:bT d out k m with
  |inl x=>grind
  |inr m1=>
   rw[O]at e;simp only at e;refine aau n (k+1) _ m1 E ?_ e;unfold bT at O;cases V:(out.getD k (default:Order)).aol with
   |false=>grind
   |true=>
    rw[V]at O;simp only[alj,cond_false,alP]at O;subst O;have h1:=h (d.zs.getD (Int.toNat ((out.getD k (default:Order)).index)) (default:apE)).reach (out.getD k (default:Order)).hour;have:=h.put (d.zs.getD (Int.toNat ((out.getD k (default:Order)).index)) (default:apE)).reach (out.getD k (default:Order)).hour (i64.wrap ((aq .aok .int m ((d.zs.getD (Int.toNat ((out.getD k (default:Order)).index)) (default:apE)).reach,(out.getD k (default:Order)).hour))+(out.getD k (default:Order)).dd));rw[<-h1]at this |-;exact this
def Lj (s:r5):aq .bo .bool [] s=false:=rfl
theorem GS {s1:List T1×WM×UM×Int}{r:Nat}(V:s1.2.2.2=(r:Int)){H:Nat}:∀ (n k:Nat) (l:List Order) (m:Mp) (w:WM),k+n=H->Eqv w m->
  (∃ l' Y w',cB (aF d) (BF r H k) (l,m)=.inr (l',Y)/\aj (aC d s1) n k ([],[],w)=.inr ([],[],w')/\Eqv w' Y)\/
  ((∃ y,cB (aF d) (BF r H k) (l,m)=.inl y)/\∃ W F' w',aj (aC d s1) n k ([],[],w)=.inr (W,F',w')/\F'≠[])
 |0,k,l,m,w,hk,h=>by
  have:k=H:=by omega
  subst this;rw[xa];exact .inl ⟨l,m,w,rfl,rfl,h⟩
 |n+1,k,l,m,w,hk,h=>by
  rw[pC (by omega:k<H)];have hg:=h (r:Int) (k:Int);rw[<-V]at hg;simp only[cB,aj];by_cases E:aq .bo .int w (sl s1.2.2.2 k)=0
  have O:aF d ((r:Int),(k:Int)) (l,m)=.inr (l,m):=by
   simp_all [aF]
  rw[O,Cm (Lj _) E];exact GS V n (k+1) l m w (by omega) h;by_cases hb:(ax (rch d s1.2.2.2) (aq .bo .int w (sl s1.2.2.2 k))).2=false\/(k:Int) < (rch d s1.2.2.2).delay
  refine .inr ⟨?_,?_⟩;have O:aF d ((r:Int),(k:Int)) (l,m)=.inl m:=by
   unfold aF;grind
  grind
  obtain⟨W,e⟩:=NZ (F:=[]) (Lj _) E hb;rw[e];obtain⟨u2,T2,w2,e2,_⟩:=A2 (d:=d) (s1:=s1) n (k+1) W ([]++[ltF k s1.2.2.2 (aq .bo .int w (sl s1.2.2.2 k))]) w;grind
  have X:(ax (rch d s1.2.2.2) (aq .bo .int w (sl s1.2.2.2 k))).2=true:=by
   grind
  have hk2:¬ (k:Int) < (rch d s1.2.2.2).delay:=λq=>hb (.inr q);rw[Cn (Lj _) E X hk2];rw[hg]at E X |-;rw[V]at E X hk2 |-;have O:aF d ((r:Int),(k:Int)) (l,m)=.inr (l++[({ hour:=(i64.wrap ((k:Int) - (rch d (r:Int)).delay)),index:=(r:Int),dd:=(ax (rch d (r:Int)) (aq .aok .int m ((r:Int),(k:Int)))).1,aol:=false}:Order)],cH .aok .int m ((rch d (r:Int)).up,i64.wrap ((k:Int) - (rch d (r:Int)).delay)) (i64.wrap ((aq .aok .int m ((rch d (r:Int)).up,i64.wrap ((k:Int) - (rch d (r:Int)).delay)))+(ax (rch d (r:Int)) (aq .aok .int m ((r:Int),(k:Int)))).1))):=by
   unfold aF;grind
  rw[O,h];exact GS V n (k+1) _ _ _ (by omega) (h.put _ _ _)
theorem N1:∀ (m n j:Nat) (l:List Order) (md:Mp) (w:WM),m<n->m<=1000000->Eqv w md->(∃ y,cB (aF d) (vD d.hours.toNat m) (l,md)=.inl y)->
  ∃ T,aj (cg d) n j ([],w,[],(m:Int) - 1)=.inl T/\T≠[]
 |0,n,j,l,md,w,_,_,_,⟨y,e⟩ =>by simp[vD,cB]at e
 |m+1,n+1,j,l,md,w,hmn,hm,h,⟨y,e⟩ =>by
  rw[uL]at e;have W:(([],w,[],((m+1:Nat):Int) - 1):List T1×WM×UM×Int).2.2.2=(m:Int):=by grind
  rcases GS (d:=d) W (H:=d.hours.toNat) d.hours.toNat 0 l md w (by omega) h with⟨l',O,w',E,Y,h'⟩ | ⟨_,X,F',w',Y,hF⟩;rw[xG,E]at e;obtain⟨T,V,hT⟩:=N1 m n (j+1) l' O w' (by omega) (by omega) h' ⟨y,e⟩;refine⟨T,?_,hT⟩;simp only[aj];grind [N0]
  obtain⟨T,V,_⟩:=D7 (d:=d) m n (j+1) F' w' X (by omega) (by omega);refine⟨F'++T,?_,by simp[hF]⟩;simp only[aj];grind [N0]
theorem zG (hr:aoL d)(O:aoR d out)(E:∀ x∈out,x.aol=true):∃ w0,aj (gh out d) out.length 0 []=.inr w0/\(∃ m,aj (bT d out) out.length 0 []=.inr m/\Eqv w0 m)/\
  aj (cg d) (d.reaches.length+1) 0 ([],w0,[],i64.wrap ((d.reaches.length:Int) - 1))=.inl (cG out d)/\∀ f∈cG out d,f.kind=7:=by
 obtain⟨m,V⟩:=(yd hr O).2.2 E;obtain⟨w0,Y,h0⟩:=aau out.length 0 [] [] m (λ_ _=>rfl) V;have X:=hr.reaches;obtain⟨T,W,h1⟩:=D7 (d:=d) d.reaches.length (d.reaches.length+1) 0 [] w0 [] (by omega) (by omega);have hw:i64.wrap ((d.reaches.length:Int) - 1)=(d.reaches.length:Int) - 1:=aA (by omega) (by omega);grind [cG]
theorem adb (hr:aoL d)(W:aoR d out)(E:∀ x∈out,x.aol=true):iX out d ((cG out d).map iD):=by
 obtain⟨w0,Y,_,X,_⟩:=zG hr W E;intro _;have hR:=hr.reaches;have hh:=hr.hours;refine⟨?_,λx4 O _=>?_⟩;have V:∀ j s,0<=j->j<0+out.length->i7 out d j s:=λj s _ hj=>by
  have h1:=W.one j (by omega);have h2:(out.getD j (default:Order)).aol=true:=E _ (Cj _ _ (by omega));exact⟨h1.ap2,h1.gl h2⟩
 exact jS (λ_ _=>True) _ _ _ trivial λj s h1 h2 _=>⟨V j s h1 h2,λ_ _=>trivial⟩;rw[Y]at O;simp only[alP]at O;subst O;have hw:i64.wrap ((d.reaches.length:Int) - 1)=(d.reaches.length:Int) - 1:=aA (by omega) (by omega);refine⟨?_,λz hz=>?_,λx hx=>?_⟩;rw[hw]at X |-;exact RA hh _ _ _ _ _ _ (by omega) (by omega) (ak2 _) λx hx=>by
  grind
 grind
 grind
theorem Zk (hr:aoL d)(V:aoR d out)(E:∀ x∈out,x.aol=true)(W:(aO d out).2.1=false)(O:(aO d out).2.2=0):cG out d≠[]:=by
 obtain⟨w0,e0,⟨m,hm,X⟩,Y,_⟩:=zG hr V E;have hR:=hr.reaches;have hw:i64.wrap ((d.reaches.length:Int) - 1)=(d.reaches.length:Int) - 1:=aA (by omega) (by omega);have hy:∃ y,cB (aF d) (cO d) (out,m)=.inl y:=by
  cases q:cB (aF d) (cO d) (out,m)with
  |inl y=>grind
  |inr s=>
   exfalso;unfold aO at W O;grind
 obtain⟨T,e3,hT⟩:=N1 (d:=d) d.reaches.length (d.reaches.length+1) 0 out m w0 (by omega) (by omega) X hy;grind
end
abbrev F5:=Int×Int×Int×Int×Int
def Tl (f:T1):F5:=(f.kind,f.hour,f.index,f.dd,f.limit)
theorem Lk (out:List Order)(d:ah):∀ (L:List T1) (s:F5),∃ s',cB (ef out d) L s=.inr s'/\(s'=s\/∃ f∈L,s'=Tl f)
 | [],s=>⟨s,rfl,.inl rfl⟩
 |f::L,s=>by
  have h1:ef out d f s=.inr (Tl f)\/ef out d f s=.inr s:=by
   grind [ef,Tl]
  simp only[cB];rcases h1 with h1|h1;rw[h1];obtain⟨s',e,h⟩:=Lk out d L (Tl f);grind
  rw[h1];obtain⟨s',e,h⟩:=Lk out d L s;grind
theorem Tm {out:List Order}{d:ah}(h:cG out d≠[]):jk out d∈cG out d:=by
 unfold jk;cases O:cG out d with
 |nil=>grind
 |cons f L=>
  have h1:ef out d f (0,0,0,0,0)=.inr (Tl f):=by
   rfl
  obtain⟨s',e,h⟩:=Lk out d L (Tl f);simp only[cB,h1,e];rcases h with rfl| ⟨g,E,rfl⟩;exact alc;exact ak6 _ E
theorem Co {f:Nat->List T1}{step:Nat->List T1->Empty⊕List T1}:∀ (n i:Nat) (s:List T1),(∀ j s,i<=j->j<i+n->step j s=.inr (s++f j))->aj step n i s=.inr (s++(List.range' i n).flatMap f)
 |0,i,s,_=>by simp[aj]
 |n+1,i,s,h=>by
  simp only[aj,h i s (ak2 _) (by omega)];rw[Co n (i+1) (s++f i) λj s h1 h2=>h j s (by omega) (by omega)];simp[amv]
theorem GU {f:Nat->List T1}{step:Nat->List T1->Empty⊕List T1}{p:Nat->List T1->Prop}{items:List (List SV)}:∀ (n i:Nat) (s:List T1),(∀ j s,i<=j->j<i+n->step j s=.inr (s++f j))->
  (∀ j s,i<=j->j<i+n->(s++f j).map iD<+:items->p j s)->(s++(List.range' i n).flatMap f).map iD<+:items->okI step p n i s
 |0,_,_,_,_,_=>trivial
 |n+1,i,s,h,hp,hi=>by
  rw[amv,alp,<-alG]at hi;refine⟨hp i s (ak2 _) (by omega) (am0 (by grind) hi),λs' e=>?_⟩;rw[h i s (ak2 _) (by omega)]at e;simp only[alP]at e;subst e;exact GU n (i+1) (s++f i) (λj s h1 h2=>h j s (by omega) (by omega)) (λj s h1 h2=>hp j s (by omega) (by omega)) hi
def g0P (x:Order):Bool:= !x.aol&&x.index==0
section
variable {d:ah}{l:List Order}
theorem Qd (O:aoR d l):∃ s0,aj (aX l) l.length 0 ([],0)=.inr s0/\(∀ r h,aq .bo .int s0.1 (sl r h)=eB (fv r h h) l)/\s0.2=eB g0P l:=by
 obtain⟨s,e,h1,h2⟩:=Le (step:=aX l) (λj s=>(∀ r h,aq .bo .int s.1 (sl r h)=eB (fv r h h) (l.take j))/\s.2=eB g0P (l.take j)) l.length 0 ([],0) ⟨λ_ _=>rfl,rfl⟩ (λj s _ E ⟨h1,h2⟩ =>by
  have E:j<l.length:=by omega
  have hb:=Ry O g0P j;have V:=O.lit _ (alR E);unfold aX;rw[iC _ _ E];cases W:l[j].aol with
  |true=>
   grind [yb,fv,g0P]
  |false=>
   have Y:∀ r h,aq .bo .int (cH .bo .int s.1 (sl l[j].index l[j].hour) l[j].dd) (sl r h)=eB (fv r h h) (l.take (j+1)):=λr h=>by
    rw[oe,yb E,h1];by_cases q:r=l[j].index/\h=l[j].hour
    obtain⟨rfl,rfl⟩:=q;have X:fv l[j].index l[j].hour l[j].hour l[j]=true:=by grind [fv]
    rw[if_pos rfl,X,Th O E (λx hx=>?_)];simp;unfold fv at hx;grind
    have X:fv r h h l[j]=false:=by
     cases hc:fv r h h l[j]with
     |false=>rfl
     |true=>
      unfold fv at hc;grind
    simp_all [GR]
   by_cases h0:l[j].index=0
   have hb0:(l[j].index==0)=true:=by rw[h0];rfl
   simp only[als,cond_true,hb0];refine⟨_,rfl,Y,?_⟩;have:g0P l[j]=true:=by grind [g0P]
   rw[yb E,this,h2,aA (by omega) (by omega),cond_true];have hb0:(l[j].index==0)=false:=by grind
   simp only[als,cond_true,hb0,cond_false];refine⟨_,rfl,Y,?_⟩;grind [g0P,yb])
 grind
theorem WQ (E:aoR d l){s0:WM×Int}(X:∀ r h,aq .bo .int s0.1 (sl r h)=eB (fv r h h) l)(h i:Nat)(hh:h<=1000000)(n:Nat)(hn:n<=1000000):
  aj (gA d s0 h i) n 0 0=.inr (eB (fv i ((h:Int) - n+1) h) l):=by
 obtain⟨s,e,h1⟩:=Le (step:=gA d s0 h i) (λj s=>s=eB (fv i ((h:Int) - j+1) h) l) n 0 0 (u4 (λx _=>by
   cases hc:fv i ((h:Int) - (0:Nat)+1) h x with
   |false=>rfl
   |true=>
    unfold fv at hc;grind)).symm (λj s _ hj V=>by
  refine⟨_,rfl,?_⟩;have O:=X (i:Int) ((h:Int) - (j:Int));unfold sl at O;have W:=WK E (i:Int) (a:=(h:Int) - j) (m:=(h:Int) - j+1) (b:=(h:Int)) (by omega) (by omega);have Y:=WJ E (fv i ((h:Int) - j) ((h:Int) - j));have e4:=WJ E (fv i ((h:Int) - j+1) h);rw[show(h:Int) - j+1 - 1=(h:Int) - j by omega]at W;rw[aA (n:=(h:Int) - (j:Int)) (by omega) (by omega),O,V,aA (by omega) (by omega),show(h:Int) - ((j+1:Nat):Int)+1=(h:Int) - j by omega];omega)
 grind
def bkV (d:ah)(l:List Order)(h i:Nat):List T1:=
 (if eB (fv i h h) l > (rch d i).cap then [{ kind:=1,hour:=(h:Int),index:=(i:Int),dd:=eB (fv i h h) l,limit:=(rch d i).cap}]else [])++
 (if eB (fv i ((h:Int) - (rch d i).delay+1) h) l > (rch d i).ao7 then [{ kind:=3,hour:=(h:Int),index:=(i:Int),dd:=eB (fv i ((h:Int) - (rch d i).delay+1) h) l,limit:=(rch d i).ao7}]else [])
variable {items:List (List SV)}
theorem RB(ho:aoR d l){s0:WM×Int}(hg:∀ r h,aq .bo .int s0.1 (sl r h)=eB (fv r h h) l){h i:Nat}(hh:h<=1000000)(hi:i<d.reaches.length)(s:List T1):
  fC d s0 h i s=.inr (s++bkV d l h i)/\((s++bkV d l h i).map iD<+:items->il d items s0 h i s):=by
 have hx:=ho.right.ap4 hi;have hd1:=hx.aqv;have hd2:=hx.delay;have Y:=WQ ho hg h i hh (Int.toNat (d.reaches.getD i (default:Reach)).delay) (by omega);have e2:=hg (i:Int) (h:Int);unfold sl at e2;have e3:((Int.toNat (d.reaches.getD i (default:Reach)).delay:Nat):Int)=(rch d (i:Int)).delay:=by
  grind
 rw[e3]at Y;have e4:d.reaches.getD i (default:Reach)=rch d (i:Int):=by rfl
 have X:(d.reaches.getD i (default:Reach)).delay<9223372036854775808:=by omega
 refine⟨?_,λE=>⟨X,λs3 W=>?_⟩⟩;grind [fC,bkV]
 rw[Y]at W;simp only[alP]at W;subst W;simp only[e2];rw[e4];unfold bkV at E;generalize eB (fv i ((h:Int) - (rch d (i:Int)).delay+1) h) l=B at E |-;generalize eB (fv i h h) l=A at E |-;generalize rch d (i:Int)=x at E |-;refine⟨λO=>⟨?_,λV=>?_,λq=>q⟩,λO=>⟨O,λV=>?_,λq=>q⟩⟩;rw[if_pos (of_decide_eq_true O),<-alG]at E;refine D6 (am0 ?_ E);grind
 rw[if_pos (of_decide_eq_true O),if_pos (of_decide_eq_true V),<-alG]at E;exact D6 E;rw[if_neg (of_decide_eq_false O),if_pos (of_decide_eq_true V),ak_]at E;exact D6 E
def bkH (d:ah)(l:List Order)(h:Nat):List T1:=(List.range' 0 d.reaches.length).flatMap (bkV d l h)
theorem RD(E:aoR d l){s0:WM×Int}(O:∀ r h,aq .bo .int s0.1 (sl r h)=eB (fv r h h) l){h:Nat}(V:h<=1000000)(s:List T1):
  eE d s0 h s=.inr (s++bkH d l h)/\((s++bkH d l h).map iD<+:items->im d items s0 h s):=by
 have key:∀ j s,0<=j->j<0+d.reaches.length->fC d s0 h j s=.inr (s++bkV d l h j):=λj s _ Y=>(RB E O V (by omega) s (items:=items)).1;refine⟨?_,λW _=>?_⟩;unfold eE;rw[Co d.reaches.length 0 s key];rfl;exact GU d.reaches.length 0 s key (λj s _ Y X=>(RB E O V (by omega) s).2 X) W
def C8 (d:ah)(l:List Order):List T1:=(List.range' 0 d.hours.toNat).flatMap (bkH d l)++(if eB g0P l > d.aoE.start then [{ kind:=4,hour:=0,index:=0,dd:=eB g0P l,limit:=d.aoE.start}]else [])
theorem Jm (E:aoR d l):dN l d=C8 d l/\gX l d ((dN l d).map iD):=by
 obtain⟨s0,X,W,h0⟩:=Qd E;have hh:=E.right.hours;have key:∀ j s,0<=j->j<0+d.hours.toNat->eE d s0 j s=.inr (s++bkH d l j):=λj s _ hj=>(RD E W (by omega) s (items:=[])).1;have e1:=Co d.hours.toNat 0 [] key;have V:dN l d=C8 d l:=by
  unfold dN C8;grind
 refine⟨V,?_⟩;rw[V];intro _ s O;rw[X]at O;simp only[alP]at O;subst O;refine⟨by omega,?_,λs1 hs1=>?_⟩;refine GU d.hours.toNat 0 [] key (λj s _ hj Y=>(RD E W (by omega) s).2 Y) ?_;grind [C8]
 simp_all [C8]
end
section
variable {d:ah}{c:List Claim}
theorem yX (s:List Order):bC s=true↔∃ x∈s,x.dd > 1073741824:=by
 unfold bC dS;have E:∀ j,bX s j ()=bif decide ((s.getD j default).dd > 1073741824)then .inl (j:Int)else .inr ():=λj=>rfl;have key:∀ n i,(∀ j,i<=j->j<i+n->¬ (s.getD j default).dd > 1073741824)->aj (bX s) n i ()=.inr ():=by
  intro n;induction n with
  |zero=>intro i _;rfl
  |succ n V=>
   intro i h;simp only[aj,E];grind
 have O:∀ n i x,aj (bX s) n i ()=.inl x->0<=x/\∃ j,i<=j/\j<i+n/\(s.getD j default).dd > 1073741824:=by
  intro n;induction n with
  |zero=>grind
  |succ n V=>
   intro i x h;simp only[aj,E]at h;grind
 constructor
 grind
 rintro⟨x,W,Y⟩;obtain⟨j,X,rfl⟩:=alI W;cases hr:aj (bX s) s.length 0 ()with
 |inl x=>grind
 |inr u=>
  have h1:=PB hr j (alB _) (by omega);grind
structure apP (d:ah)(c:List Claim):Prop where
 chk:dI d c=0
 wide:(d.reaches.length:Int)*d.hours<=1024
 lit:∀ x∈ay c,x.dd<=1073741824
theorem Ll (h:dI d c=0):ap_ c:=by
 obtain⟨_,h2,O,_⟩:=(kv d c).1 h;exact⟨h2,λa E=>GN (O a E)⟩
theorem A3 (h:dI d c=0):aoL d:=jz (by grind [kv])
theorem Zl (h:dI d c=0):i64.wrap ((d.reaches.length:Int)*d.hours)=(d.reaches.length:Int)*d.hours:=by
 have:=Jj (A3 h);exact aA (by omega) (by omega)
theorem Cp:(a9 d c).2=0↔apP d c:=by
 unfold a9;by_cases h1:dI d c=0
 rw[h1];simp only[bne_self_eq_false,cond_false];rw[Zl h1];by_cases h2:(d.reaches.length:Int)*d.hours > 1024
 rw[decide_eq_true h2,cond_true];constructor
 omega;intro h;have:=h.wide;omega;rw[decide_eq_false h2,cond_false];cases O:bC (ay c)with
 |true=>
  rw[cond_true];obtain⟨x,E,V⟩:=(yX _).1 O;constructor
  omega;intro h;have:=h.lit x E;omega
 |false=>
  rw[cond_false];refine⟨λ_=>⟨h1,by omega,λx E=>?_⟩,λ_=>rfl⟩;by_cases q:x.dd > 1073741824
  have:=(yX _).2 ⟨x,E,q⟩;grind
  omega
 have:(dI d c !=0)=true:=by grind
 rw[this,cond_true];exact⟨λh=>absurd h h1,λh=>absurd h.chk h1⟩
theorem u7 (h:apP d c):a9 d c=(ay c,0):=by
 have h2:=Cp.2 h;unfold a9 at h2 |-;grind
theorem WR (d:ah)(c:List Claim):ln d c:=by
 refine⟨Tf d c,λh _ _=>Tj (Ll (d:=d) ?_)⟩;simpa using h
theorem apP.outs (h:apP d c):aqH c (ay c):=Sx.outs (Ll h.chk)
theorem apP.nar (h:apP d c):Nar d (ay c):=by
 obtain⟨h1,h2,h3,_⟩:=(kv d c).1 h.chk;have E:=h.outs;refine⟨⟨h1,ald E.len h2,λx O=>?_,E.asc⟩,h.wide⟩;obtain⟨a,Y,e1,e2⟩:=E.src x O;have X:=h3 a Y;unfold okC at X;simp only[akZ,decide_eq_true_eq]at X;have W:=E.out x O;have hl:=E.lit x O;have V:=h.lit x O;exact⟨by omega,by omega,by omega,λ_=>by omega,λq=>(by grind),hl.2,V⟩
theorem GV (d:ah)(c:List Claim):jF d c:=by
 refine⟨WR d c,λh=>?_⟩;have O:apP d c:=Cp.1 (by simpa using h);have W:=u7 O;rw[W];have V:=O.nar;have E:=O.outs.out;refine⟨ac9 _ _,λh2=>⟨λ_=>?_,λh3=>?_⟩⟩;exact adb V.good.right V.good.apC E;rcases GM d (ay c)with⟨_,e⟩ | ⟨_,_,e⟩ | ⟨_,_,_,e⟩ | ⟨_,_,Y,_,_,e⟩ | ⟨_,_,Y,X,e⟩;grind
 grind
 grind
 grind
 rw[e];exact(Jm X.good.apC).2
def Lm (d:ah)(c:List Claim):iO d c:=GV d c
end
end Go.Sx
end
section
namespace Go.Sx
open Go.Proofs Go.RowKit
open IntKind (i64)
@[go_sem] noncomputable def Zm:List SV->Option Con:=(pR .int λl=>(pE (.det True (.rc .int l))))
theorem WS:P1 Tryz.prog 71 Zm:=by
 refine fE (mG W2 W2) Tryz.f71 (bM λl=>(am (λE=>?_)));dsimp only[an]at E;refine⟨nbl rfl,L0,ag _,?_⟩;unfold ae Tryz.f71;exact zq2
def chz:Nat->List Int->List Int->List (List Int)
 |0,s,_=>[s]|_+1,_,[] =>[]|n+1,s,x::l=>if l.length<n then []else chz n (s++[x]) l++chz (n+1) s l
theorem A4 (s l:List Int):chz 0 s l=[s]:=by cases l <;>rfl
theorem Jn:∀ (n:Nat) (s l:List Int),l.length<n->chz n s l=[]
 |0,_,_,h=>by omega
 |_+1,_,[],_=>rfl
 |n+1,s,x::l,h=>by
  simp_all [chz]
theorem GW (n:Nat)(s:List Int)(l:List Int)(k:Nat)(E:k<l.length):chz (n+1) s (l.drop k)=if l.length - k<n+1 then []else chz n (s++[l.getD k 0]) (l.drop (k+1))++chz (n+1) s (l.drop (k+1)):=by
 have e:l.drop k=l.getD k 0::l.drop (k+1):=by
  simp_all
 rw[e];simp only[chz,amd];grind
def chc (n:Nat)(s l:List Int)(k:Nat):Nat:=(chz (n+1) s l).length - (chz (n+1) s (l.drop k)).length
theorem Ln (n:Nat)(s l:List Int):∀ k,k<=l.length->chz (n+1) s (l.drop k) <:+chz (n+1) s l
 |0,_=>by simp
 |k+1,h=>by
  refine List.IsSuffix.trans ?_ (Ln n s l k (by omega));grind [GW,Jn]
theorem WT (n:Nat)(s l:List Int):chc n s l 0=0:=by simp[chc]
theorem WU (n:Nat)(s l:List Int)(k:Nat)(E:k<l.length)(h:¬l.length - k<n+1):chc n s l (k+1)=chc n s l k+(chz n (s++[l.getD k 0]) (l.drop (k+1))).length:=by
 have h1:=(Ln n s l k (by omega)).length_le;unfold chc;rw[GW n s l k E,if_neg h]at h1 |-;grind
theorem RE (n:Nat)(s l:List Int)(k:Nat)(h:l.length - k<n+1):chc n s l k=(chz (n+1) s l).length:=by
 grind [chc,Jn]
theorem Zn (n:Nat)(s l:List Int)(k:Nat)(O:k<l.length)(h:¬l.length - k<n+1)(j:Nat)(y:List Int)(hy:(chz n (s++[l.getD k 0]) (l.drop (k+1)))[j]? =some y):(chz (n+1) s l)[chc n s l k+j]? =some y:=by
 obtain⟨p,E⟩:=Ln n s l k (by omega);have hc:chc n s l k=p.length:=by grind [chc]
 rw[hc,<-E,amV (by omega),anP,GW n s l k O,if_neg h,amZ (ak4.1 hy).1];exact hy
def chK (p:Prop)(r:RF)(k m:Nat)(h0 h2:Ob):aoJ:= { α:=Bool,pre:=p,post:=λ_=>True,res:=λb=>.ret (.v (.bool b)) [h0,.ab (r.1 (if b then k+m+1 else 0)),h2]}
theorem Tn {ids:List Nat}{d:Option Nat}{st:St}{K:St->Prop}{Z:Value->St->Prop}{p:Prop}{r:RF}{k m:Nat}{h0 h2:Ob}:yG ids d st K Z (some (chK p r k m h0 h2))=(p/\JJ ids d st K Z (.ret (.v (.bool true)) [h0,.ab (r.1 (k+m+1)),h2])/\JJ ids d st K Z (.ret (.v (.bool false)) [h0,.ab (r.1 0),h2])):=by
 apply propext;constructor
 rintro⟨h1,h2⟩;exact⟨h1,h2 true trivial,h2 false trivial⟩;rintro⟨h1,h2,h3⟩;refine⟨h1,λb _=>?_⟩;cases b;exact h3;exact h2
attribute [go_sem] Tn
abbrev chF:Ob:=.cells [.fn 70 [] [.ptr 0 0,.ptr 2 0]]
@[go_sem high]def ahS {x:Res}:reach [.cells [.os 1],.ab x,.cells [.fn 70 [] [.ptr 0 0,.ptr 2 0]]] 64 [0,2] []=[0,1,2]:=(rfl)
def chP (items:List (List SV))(n:Nat)(x:List Int×List Int×Nat):Prop:=x.1.length+n<=1000/\x.2.1.length<=1000/\∀ j y,(chz n x.1 x.2.1)[j]? =some y->items[x.2.2+j]? =some [.rs .int y]
noncomputable def WV (items:List (List SV))(r:RF)(n:Nat):List SV->List Ob->Option aoJ:=jf (λx:List Int×List Int×Nat=>[.rs .int x.1,.rs .int x.2.1,.v (.int .i64 (n:Int)),.ptr 0 0,.ptr 2 0]) (λx=>[.cells [.os 1],.ab (r.1 (x.2.2+1)),chF]) (λx=>chK (chP items n x) r x.2.2 (chz n x.1 x.2.1).length (.cells [.os 1]) chF)
theorem RG (items:List (List SV))(r:RF)(n:Nat)(s l:List Int)(k:Nat):WV items r n ([.rs .int s,.rs .int l,.v (.int .i64 (n:Int)),.ptr 0 0,.ptr 2 0]) ([.cells [.os 1],.ab (r.1 (k+1)),chF])=some (chK (chP items n (s,l,k)) r k (chz n s l).length (.cells [.os 1]) chF):=
 fL (A:=λx:List Int×List Int×Nat=>[.rs .int x.1,.rs .int x.2.1,.v (.int .i64 (n:Int)),.ptr 0 0,.ptr 2 0]) (H:=λx=>[.cells [.os 1],.ab (r.1 (x.2.2+1)),chF]) (K:=λx=>chK (chP items n x) r x.2.2 (chz n x.1 x.2.1).length (.cells [.os 1]) chF) (x:=(s,l,k)) (by
  grind)
theorem adc (items:List (List SV))(r:RF)(hy:YOk Tryz.prog (Dg items r)):aoH Tryz.prog 70 (WV items r 0):=by
 have hG:=mGY W2 W2 hy;refine oz mixed aJ hG (fn:=Tryz.f70) (c:=ae Tryz.f70) kr kr kr kr λl o O h E=>?_;obtain⟨⟨s,l,k⟩,rfl,rfl,rfl⟩:=dV h;clear h;refine⟨nbl rfl,L0,ag _,?_⟩;unfold ae Tryz.f70;have V:=E.2.2 0 s (by grind [A4]);simp only[go_sem];refine⟨λ_=>⟨by omega,?_,?_⟩,λh=>absurd h (by decide)⟩;refine⟨true,_,_,[0,1,2],trivial,rfl,?_⟩;simp only[go_sem,A4,ak5,alo,if_true,ak8];refine⟨false,_,_,[0,1,2],trivial,rfl,?_⟩;simp only[go_sem,ak7,if_false]
theorem WW {c:Nat->Bool}{x:Nat}:∀ (m k:Nat),aj (λj (_:Unit) =>bif c j then(.inl j:Nat⊕Unit)else .inr ()) m k ()=.inl x->x<k+m/\c x=true
 |0,_,h=>by cases h
 |m+1,k,h=>by
  simp only[aj]at h;cases hc:c k with
  |true=>grind|false=>rw[hc]at h;have:=WW m (k+1) h;grind
theorem ade (items:List (List SV))(r:RF)(hy:YOk Tryz.prog (Dg items r))(n:Nat)(ih:aoH Tryz.prog 70 (WV items r n)):aoH Tryz.prog 70 (WV items r (n+1)):=by
 have hG:=mGY (cp WS W2) (co ih W2) hy;refine oz mixed aJ hG (fn:=Tryz.f70) (c:=ae Tryz.f70) kr kr kr kr λl o con h E=>?_;obtain⟨⟨s,l,k⟩,rfl,rfl,rfl⟩:=dV h;clear h;have hz:(((n+1:Nat):Int) ==0)=false:=by simp;omega
 obtain⟨hs,hl,E⟩:=E;simp only at hs hl E;have hl2:l.length<=aN:=by unfold aN;omega
 have V:i64.wrap (((n+1:Nat):Int) - 1)=(n:Int):=by grind [aA]
 refine⟨nbl rfl,λid st=>bif Nat.beq id 0 then some (LCY (ρ:=Nat) (σ:=Unit) 3 [] [0,1,2] (λj _=>⟨[(0,.rs .int s),(1,.rs .int l),(2,.v (.int .i64 ((n+1:Nat):Int))),(3,.ptr 0 0),(4,.ptr 2 0),(16,.v (.int .i64 (l.length:Int))),(17,.v (.int .i64 (j:Int)))],[.cells [.os 1],.ab (r.1 (k+chc n s l j+1)),chF]⟩) (λj _=>bif decide (i64.wrap ((l.length:Int) - (j:Int)) < ((n+1:Nat):Int))then .inl j else .inr ()) (λ_ _=>True) l.length () True (λ_=>.normal) (λj=>⟨[],[.cells [.os 1],.ab (r.1 (k+chc n s l j+1)),chF]⟩) ⟨[(8,.v (.bool false))],[.cells [.os 1],.ab (r.1 0),chF]⟩ st)else none,?_,?_⟩;unfold ae Tryz.f70;simp only[ak,true_and,and_true];refine sL mixed aJ hG kr (λ_=>rfl) l.length rfl (λ_=>by omega) (λ_ j _ hlt _ hw hc=>⟨L0,ag _,?_⟩) (λ_ _ hc=>?_);simp only[go_sem,hc,hw,V,RG,amw];intro hb;have hwj:i64.wrap ((l.length:Int) - (j:Int))=(l.length:Int) - (j:Int):=by grind [aA]
 refine⟨λh1=>?_,λh2=>?_⟩;rw[h1];simp only[go_sem];exact fk (jl [0,1,2]);have hn:¬l.length - j<n+1:=by
  grind
 have X:=WU n s l j hlt hn;refine⟨⟨by omega,by omega⟩,by grind [d8],λ_=>⟨⟨by omega,by omega,by omega⟩,by rfl,⟨?_,?_,?_⟩,?_,?_⟩⟩;grind
 grind
 intro i y hy;have:=E _ _ (Zn n s l j hlt hn i y hy);grind
 rw[h2];simp only[go_sem,X,<-amt];exact fk (jl [0,1,2]);exact .inr (fk (jl [0,1,2]));simp only[go_sem,hc];exact fk (jl [0,1,2]);unfold ae Tryz.f70;simp only[go_sem,hz];intro _;refine⟨⟨⟨rfl,by rw[WT]⟩,g8 _ _ _ λ_ _ _ _=>trivial⟩,λx Y=>?_,λ_ Y=>?_,?_⟩;obtain⟨hx1,W⟩:=WW (c:=λj=>decide (i64.wrap ((l.length:Int) - (j:Int)) < ((n+1:Nat):Int))) _ _ Y;have O:=of_decide_eq_true W;rw[aA (by omega) (by omega)]at O;refine⟨true,_,_,[0,1,2],trivial,rfl,?_⟩;rw[RE n s l x (by omega)];simp only[go_sem,if_true];refine⟨true,_,_,[0,1,2],trivial,rfl,?_⟩;rw[RE n s l l.length (by omega)];simp only[go_sem,if_true];refine⟨false,_,_,[0,1,2],trivial,rfl,?_⟩;simp only[go_sem,ak7,if_false]
def aav (items:List (List SV))(r:RF)(hy:YOk Tryz.prog (Dg items r)):∀ n,aoH Tryz.prog 70 (WV items r n)
 |0=>adc items r hy|n+1=>ade items r hy n (aav items r hy n)
noncomputable def WX (items:List (List SV))(r:RF):List SV->List Ob->Option aoJ:=jf (λx:List Int×Nat×Nat=>[.v (.slice none 0 0),.rs .int x.1,.v (.int .i64 (x.2.1:Int)),.ptr 0 0,.ptr 2 0]) (λx=>[.cells [.os 1],.ab (r.1 (x.2.2+1)),chF]) (λx=>chK (chP items x.2.1 ([],x.1,x.2.2)) r x.2.2 (chz x.2.1 [] x.1).length (.cells [.os 1]) chF)
@[go_sem] theorem ahT {items:List (List SV)}{r:RF}{n k:Nat}{l:List Int}:WX items r ([.v (.slice none 0 0),.rs .int l,.v (.int .i64 (n:Int)),.ptr 0 0,.ptr 2 0]) ([.cells [.os 1],.ab (r.1 (k+1)),.cells [.fn 70 [] [.ptr 0 0,.ptr 2 0]]])=some (chK (chP items n ([],l,k)) r k (chz n [] l).length (.cells [.os 1]) chF):=
 fL (A:=λx:List Int×Nat×Nat=>[.v (.slice none 0 0),.rs .int x.1,.v (.int .i64 (x.2.1:Int)),.ptr 0 0,.ptr 2 0]) (H:=λx=>[.cells [.os 1],.ab (r.1 (x.2.2+1)),chF]) (K:=λx=>chK (chP items x.2.1 ([],x.1,x.2.2)) r x.2.2 (chz x.2.1 [] x.1).length (.cells [.os 1]) chF) (x:=(l,n,k)) (by
  grind)
theorem adf (items:List (List SV))(r:RF)(hy:YOk Tryz.prog (Dg items r)):aoH Tryz.prog 70 (WX items r) where
 enter:=λl h c hc=>by
  simp_all
 calls:=λl h c hc V F own w vs W O=>by
  obtain⟨⟨a,n,k⟩,rfl,rfl,rfl⟩:=dV hc;refine(aav items r hy n).calls _ _ _ (RG items r n [] a k) V F own w vs W ⟨O.1,λj s E=>?_⟩;match j,E with
  |0,E=>
   cases E;have h:=O.2 0 _ rfl;generalize vs.getD 0 undef=u at h |-;cases h;exact .rs0
  |j+1,E=>exact O.2 (j+1) s E
@[go_sem high]def afr {x:Res}:reach [.ab x,.cells [.os 0],.cells [.fn 70 [] [.ptr 1 0,.ptr 2 0]]] 64 [1,2] []=[1,0,2]:=(rfl)
end Go.Sx
end
section
namespace Go.Sx
open Go.Proofs
open IntKind (i64)
@[go_sem] def WY (x:List Int):List SV:=[.rs .int x]
@[go_sem] def Ic:List SV->Option Con:=(pR .int λl_=>(pE (.det True (.fn 69 [] [.ep [.rs .int l_] 0]))))
theorem GX:P1 Tryz.prog 30 Ic:=by
 have hG:=mG W2 W2;refine fN hG Tryz.f30 [.o] (bM λO=>(am (λE=>?_)));refine⟨nbl rfl,L0,ag _,?_⟩;unfold ae Tryz.f30;simp only[go_sem,sJ,sK,Nat.reduceBEq,Nat.reduceLeDiff,Nat.reduceAdd,Nat.reduceSub,Nat.reduceMul]
@[go_sem] def ka (l_:List Int)(k_0:Nat)(x4:List (List Int)):Empty⊕(List (List Int)):=.inr (x4++(chz k_0 [] l_))
def ky (l_:List Int)(aoM:List (List SV))(k_0:Nat)(x4:List (List Int)):Prop:=(chP aoM k_0 ([],l_,x4.length))
def eC (l_:List Int):List (List Int):=(match aj (ka l_) (Int.toNat (i64.wrap ((l_.length:Int)+1))) 0 ([]:List (List Int))with| .inl x=>x.elim| .inr x4=>x4)
def kL (l_:List Int)(aoM:List (List SV)):Prop:=letI q0:=i64.wrap ((l_.length:Int)+1);letI q1:=ka l_;(l_.length<=aN->((q0<9223372036854775808)/\okI q1 (ky l_ aoM) (Int.toNat q0) 0 ([]:List (List Int))/\(∀ x4,aj q1 (Int.toNat q0) 0 ([]:List (List Int))=.inr x4->(aoM.length=x4.length))))
theorem Cq (O:List Int)(E:List (List SV))(hp:kL O E):Ak Tryz.prog 69 (λy=>[y,.ep [.rs .int O] 0]) [] E:=by
 unfold kL at hp;refine BD mixed aJ (fn:=Tryz.f69) (c:=ae Tryz.f69) kr kr kr kr rfl (n:=0) rfl (G:=λW=>Al [] [(70,(WX E W))] (Dg E W)) (λW hy=>?_) (λargs w=>by kernel_rfl);have hG:=mGY W2 (co (adf E W hy) W2) hy;refine⟨hG,nbl rfl,(λid st=>bif Nat.beq id 0 then some (LCY (ρ:=Empty) (σ:=(List (List Int))) 3 [] [0,1,2] (λX V=>⟨[(1,.ep [.rs .int O] 0),(3,.ptr 2 0),(8,.v (.int .i64 (i64.wrap ((O.length:Int)+1)))),(9,.v (.int .i64 (X:Int)))],[.ab (W.1 (V.length+1)),.cells [.os 0],.cells [.fn 70 [] [.ptr 1 0,.ptr 2 0]]]⟩) (ka O) (ky O E) (Int.toNat (i64.wrap ((O.length:Int)+1))) ([]:List (List Int)) ((i64.wrap ((O.length:Int)+1)) <9223372036854775808) ((·.elim)) ((·.elim)) ⟨[],[.ab (W.1 0),.dead,.dead]⟩ st)else none),?_,?_⟩;unfold ae Tryz.f69;simp only[ak,true_and,and_true];refine sL mixed aJ hG kr (λ_=>rfl) (i64.wrap ((O.length:Int)+1)) rfl id (λhb0 X V apq Y hw hc=>⟨L0,ag _,?_⟩) (λhb0 V hc=>?_);unfold ky at Y;try simp only[hw,ak1]at Y
 exact oL (jl [0,1,2]);exact oM (jl [0,1,2]);unfold ae Tryz.f69;exact M5 (jl [0])
end Go.Sx
end
