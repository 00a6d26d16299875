/- Part of the proof of the law RefuseHoldsSpec (the Upto form). -/
import Derived.Test.YtaikmgjfkejlkaaGreatT110
import Derived.Ground.SlsfProg
set_option linter.all false
set_option maxHeartbeats 4000000
set_option maxRecDepth 100000
section
namespace Go.Sx
open Go.Proofs
open IntKind (i64)
theorem Bo {ρ τ:Type}{step:τ->Unit->ρ⊕Unit}:∀ {L:List τ},cS step L ()=.inr ()↔∀ x∈L,step x ()=.inr ()
 | [] =>by simp[cS]
 |x::r=>by
  simp[cS,aqg,forall_eq_or_imp];cases h:step x ()with
  |inl y=>simp|inr y=>simp[true_and];exact Bo
def Ri {α:Type}(l:List α)(d r:α)(i k:Nat)(hi:i<l.length):(l.set i r).getD k d=if k=i then r else l.getD k d:=by
 grind
theorem Ov (l:List Int)(X:l.length<=aD):okI (cC l) (dp l) (l.length+1) 0 (l,0,(i64.wrap ((l.length:Int) - 1)))/\aj (cC l) (l.length+1) 0 (l,0,(i64.wrap ((l.length:Int) - 1)))=.inl l.reverse:=by
 unfold aD at X;rw[ar XM XM];have key:∀ (n k:Nat) (s:List Int),n+k=l.length+1->s.length=l.length->2*k<=l.length+1->(∀ p,p<l.length->s.getD p 0=if p<k\/l.length<=p+k then l.getD (l.length - 1 - p) 0 else l.getD p 0)->
   okI (cC l) (dp l) n k (s,(k:Int),(l.length:Int) - 1 - k)/\(1<=n->aj (cC l) n k (s,(k:Int),(l.length:Int) - 1 - k)=.inl l.reverse):=by
  intro n;induction n with
  |zero=>omega
  |succ n ih=>
   intro k s hn hs hk O;have hstep:cC l k (s,(k:Int),(l.length:Int) - 1 - k)=if(k:Int) < (l.length:Int) - 1 - k then .inr ((s.set k (s.getD (l.length - 1 - k) 0)).set (l.length - 1 - k) (s.getD k 0),((k+1:Nat):Int),(l.length:Int) - 1 - ((k+1:Nat):Int))else .inl s:=by
    unfold cC;simp only;by_cases hlt:(k:Int) < (l.length:Int) - 1 - k
    rw[ar XM XM,ar XM XM];simp[aqa];have e:((l.length:Int) - 1 - k).toNat=l.length - 1 - k:=XM
    grind
    grind
   by_cases hlt:(k:Int) < (l.length:Int) - 1 - k
   have E:∀ p,p<l.length->((s.set k (s.getD (l.length - 1 - k) 0)).set (l.length - 1 - k) (s.getD k 0)).getD p 0=if p<k+1\/l.length<=p+(k+1)then l.getD (l.length - 1 - p) 0 else l.getD p 0:=λp W=>by
    rw[Ri _ _ _ _ _ XN,Ri _ _ _ _ _ XM];have h1:=O k XM;have h2:=O (l.length - 1 - k) XM;rw[if_neg XM]at h1 h2;by_cases Y:p=l.length - 1 - k
    rw[if_pos Y,if_pos XM,h1];congr 1;omega
    by_cases q2:p=k
    grind
    rw[O p W];omega
   have:=ih (k+1) _ XM XN XM E;refine⟨⟨?_,λs' V=>?_⟩,λ_=>?_⟩;unfold dp;simp;have e1:(s.set (Int.toNat (k:Int)) (s.getD (Int.toNat ((l.length:Int) - 1 - k)) 0)).length=l.length:=XN
   omega;grind
   simp[aj];grind
   refine⟨⟨?_,λs' V=>?_⟩,λ_=>?_⟩;grind [dp]
   grind
   simp[aj,hstep,if_neg hlt];congr 1
   apply asL;grind
   intro p h1 h2;rw[List.getElem_reverse];have:=O p XM;rw[ib s 0 h1,ib l 0 XM]at this;rw[this];by_cases q:p<k\/l.length<=p+k
   rw[if_pos q];rw[if_neg q,ib l 0 XM];congr 1;omega
 have h0:=key (l.length+1) 0 l XM rfl XM (λp O=>XM);grind
def ahB (l:List Int)(E:l.length<=aD):gB l=l.reverse:=by
 grind [gB,Ov]
def amq (l:List Int):ii l:=λE=>⟨(Ov l E).1,λz O=>by grind [Ov]⟩
variable {d:ai}
def ae1(hr:atq d){n:Int}(E:0<=n)(h1:n< (d.reaches.length:Int)):(0<n/\0<=(d.reaches.getD n.toNat (eT .reach)).up/\(d.reaches.getD n.toNat (eT .reach)).up<n)\/(n=0/\(d.reaches.getD n.toNat (eT .reach)).up= -1):=by
 have:=((IA _ _).1 (hr.reach n.toNat XM)).1;grind
def Rj {d:ai}(hr:atq d):∀ (f:Nat) (n:Int),n< (d.reaches.length:Int)->n<f->QH d f n/\(upL d f n).length<=f/\∀ x∈upL d f n,0<=x/\x< (d.reaches.length:Int)
 |0,n,h1,h2=>⟨by unfold QH;omega,aqb _,λx E=>by cases E⟩
 |f+1,n,h1,h2=>by
  by_cases O:0<=n
  have V:(d.reaches.getD n.toNat (eT .reach)).up<n:=by rcases ae1 hr O h1 with⟨_,_,h⟩ | ⟨h,h'⟩ <;>omega
  have⟨i1,i2,i3⟩:=Rj hr f (d.reaches.getD n.toNat (eT .reach)).up XM XM;refine⟨λ_=>⟨h1,i1⟩,?_,λx E=>?_⟩;rw[upL,if_pos O,aqc];omega;rw[upL]at E;grind
  refine⟨λh=>absurd h O,by rw[GM O];simp,λx E=>by grind [GM]⟩
def Er (d:ai)(l:List Int):kf d l=0↔aB d=0/\∀ x∈l,0<=x/\x< (d.reaches.length:Int):=by
 unfold kf;cases h1:(aB d !=0)with
 |true=>grind
 |false=>
  let f:Int->Unit->Unit⊕Unit:=λx _=>(bif((decide (x<0)) ||(decide (x>=(d.reaches.length:Int))))then .inl ()else .inr ())
  have e:aj (uf d l) l.length 0 ()=cS f l ():=uu f 0 l ();grind [Bo]
structure auB (d:ai)(reach:Int):Prop where
 chk:aB d=0
 r0:0<=reach
 r1:reach< (d.reaches.length:Int)
theorem auB.right{reach:Int}(h:auB d reach):atq d:=kc (by rw[h.chk];rfl)
def Rk (d:ai)(reach:Int):kf d [reach]=0↔auB d reach:=by
 rw[Er];exact⟨λ⟨h1,h2⟩ =>⟨h1,(h2 reach (by simp)).1,(h2 reach (by simp)).2⟩,λh=>⟨h.chk,λx E=>by rw[aq8]at E;subst E;exact⟨h.r0,h.r1⟩⟩⟩
theorem auB.up{reach:Int}(h:auB d reach):tI d reach/\(eO d reach).length<=64/\∀ x∈eO d reach,0<=x/\x< (d.reaches.length:Int):=by
 have:=Rj h.right (reach.toNat+1) reach h.r1 XM;have h1:=h.right.reaches;have h2:=h.r1;exact⟨this.1,by grind [eO],this.2.2⟩
def Bp (d:ai)(reach:Int):sZ d reach:=λh=>by
 have E:=(Rk d reach).1 (by simpa using h);have O:=E.up;exact⟨⟨E.r0,O.1,by unfold dh;omega⟩,amq _⟩
def IY{reach:Int}(h:auB d reach):nI d reach=((eO d reach).reverse,0):=by
 unfold nI;rw[(Rk d reach).2 h,ahB _ (by have:=h.up.2.1;unfold aD;omega)];rfl
def IZ {d:ai}(hr:atq d):∀ (f m i:Nat) (n:Int) (E:List Int),0<=n->n< (d.reaches.length:Int)->n<f->n<m->E.length+n<=64->
  okI (ig d) (jS d) m i (n::E)/\aj (ig d) m i (n::E)=.inl ((upL d f n).reverse++E)
 |0,_,_,n,_,h0,_,h2,_,_=>XM
 |f+1,0,_,n,_,h0,_,_,h3,_=>XM
 |f+1,m+1,i,n,E,h0,h1,h2,h3,h4=>by
  rcases ae1 hr h0 h1 with⟨X,O,W⟩ | ⟨Y,W⟩;have hstep:ig d i (n::E)=.inr ((d.reaches.getD n.toNat (eT .reach)).up::n::E):=by
   grind [ig]
  have⟨i1,i2⟩:=IZ hr f m (i+1) (d.reaches.getD n.toNat (eT .reach)).up (n::E) O XM XM XM XN;refine⟨⟨?_,λs V=>?_⟩,?_⟩;grind [jS,dh]
  grind
  simp_all [aj,upL];have hstep:ig d i ((0:Int)::E)=.inl (0::E):=rfl;refine⟨⟨?_,λs V=>?_⟩,?_⟩;grind [jS]
  grind
  simp_all [aj,upL,GM]
def ahC{reach:Int}(h:auB d reach):uF d reach/\jD d reach=(eO d reach).reverse:=by
 have h1:=h.right.reaches;have h2:=h.r1;have⟨a,b⟩:=IZ h.right (reach.toNat+1) 66 0 reach [] h.r0 h.r1 XM XM XN;rw[aqo]at b;exact⟨⟨a,λz E=>XN⟩,by unfold jD;rw[b];rfl⟩
theorem Rl (x:Int)(l:List Int):ic (x::l)=if x=0 then ic l else x:=by
 have key:∀ l:List Int,ic l=match cS (ρ:=Int) (λ(x:Int) (_:Unit) =>bif(x !=0)then .inl x else .inr ()) l ()with| .inl y=>y| .inr _=>0:=λl=>by
  have:=uu (ρ:=Int) (λ(x:Int) (_:Unit) =>bif(x !=0)then .inl x else .inr ()) 0 l ();rw[<-this];rfl
 rw[key,key];simp[cS];by_cases h:x=0
 subst h;rfl;have:(x !=0)=true:=by simpa using h
 rw[if_neg h,this];rfl
def TS:ic []=0:=rfl
theorem I0:∀ l:List (Int×Int),(ic (l.map λp=>bv p.1 p.2) <0↔qw l)
 | [] =>by simp[TS,qw]
 |(a,b)::r=>by
  have hc:=ka a b;simp[aqZ,Rl,hc,qw];rcases asf a b with h|h|h;simp[h];subst h;simp[as7,true_and,false_or];exact I0 r;have h1:¬a<b:=XM
  have h2:a≠b:=XM
  simp[h1,h2,h]
def uH (a b:Claim):Prop:=qw [(a.hour,b.hour),(a.att,b.att),(a.right,b.right),(a.gl,b.gl)]
def C9 (a b:Claim):c8 a b<0↔uH a b:=I0 [(a.hour,b.hour),(a.att,b.att),(a.right,b.right),(a.gl,b.gl)]
def I1 (a b:Y1):fX a b<0↔uH a.B1 b.B1:=C9 a.B1 b.B1
open Go.Shelf Go.Sort in
theorem Mo:SWO (ltOf fX):=Oe I1 (λx=>by simp only[uH,qw,and_false,or_false];omega) (λx y z h1 h2=>by simp[uH,qw,and_false,or_false]at *;omega) (λx y z h1 h2=>by simp[uH,qw,and_false,or_false]at *;omega)
def hrs (a b:Int):List Int:=(List.range (b+1 - a).toNat).map λk:Nat=>a+(k:Int)
variable {a:Int}
theorem adm{b:Int}(h:b<a):hrs a b=[]:=by unfold hrs;grind
theorem Rm{b:Int}(h:a<=b+1):hrs a (b+1)=hrs a b++[b+1]:=by
 unfold hrs;rw[show(b+1+1 - a).toNat=(b+1 - a).toNat+1 by omega,asS,ar7,List.map_singleton,show a+(((b+1 - a).toNat:Nat):Int)=b+1 by omega]
theorem adn{b x:Int}:x∈hrs a b↔a<=x/\x<=b:=by
 unfold hrs;rw[aq1];constructor
 grind
 rintro⟨h1,h2⟩;exact⟨(x - a).toNat,XN,XM⟩
theorem ahD (a b:Int):(hrs a b).Pairwise (· < ·):=by
 unfold hrs;rw[arU];exact List.pairwise_lt_range.imp λh=>XM
theorem Vp (a b:Int):(hrs a b).length=(b+1 - a).toNat:=by unfold hrs;simp
theorem ado {α β:Type}{R:β->β->Prop}{S:α->α->Prop}{f:α->List β}{l:List α}(V:l.Pairwise S)(h1:∀ a∈l,(f a).Pairwise R)(h2:∀ a∈l,∀ b∈l,S a b->∀ x∈f a,∀ y∈f b,R x y):(l.flatMap f).Pairwise R:=by
 rw[asV];refine⟨h1,?_⟩;exact V.imp_of_mem λ{a b} O W E=>h2 a O b W E
theorem W0 {α β:Type}{f g:α->List β}{l:List α}(h:∀ a∈l,(f a).Perm (g a)):(l.flatMap f).Perm (l.flatMap g):=by
 induction l with
 |nil=>rfl
 |cons a l E=>
  grind
open Go.Shelf Go.Sort in
theorem I2 {α:Type}{cf:α->α->Int}(E:SWO (ltOf cf)){s m:List α}(X:s.Perm m)(Y:m.Pairwise λx y=>cf x y<0):apart cf s/\srt cf s=m:=by
 have e1:∀ x y,ltOf cf x y=true↔cf x y<0:=λx y=>by unfold ltOf;grind
 have V:∀ x∈m,∀ y∈m,ltOf cf x y=false->ltOf cf y x=false->x=y:=λx W y hy h1 h2=>by
  obtain⟨i,hi,rfl⟩:=aqP.1 W;obtain⟨j,hj,rfl⟩:=aqP.1 hy;grind [List.pairwise_iff_getElem]
 refine⟨λx W y hy h1 h2=>V x (X.subset W) y (X.subset hy) h1 h2,?_⟩;unfold srt;have hq:(s.mergeSort λx y=>!(ltOf cf y x)).Perm m:=(arc _ _).trans X;refine aq0 (le:=λx y=>(!ltOf cf y x)=true) ?_ ?_ ?_ hq;grind
 refine aq2 ?_ ?_ s;intro a b c h1 h2;simp[aqA]at h1 h2 |-;exact E.3 c b a h2 h1;intro a b;simp[aqG];cases h1:ltOf cf b a with
 |false=>grind
 |true=>
  right;cases h2:ltOf cf a b with
  |false=>rfl|true=>have:=E.2 _ _ _ h1 h2;rw[E.1]at this;cases this
 refine Y.imp λ{a b} O=>?_;cases h2:ltOf cf b a with
 |false=>rfl|true=>have:=E.2 _ _ _ ((e1 _ _).2 O) h2;rw[E.1]at this;cases this
end Go.Sx
end
section
namespace Go.Proofs
open Go.Shelf Go.Sx
def Tryz.avf:Go.Shelf.Ren:=⟨λ|6=>231|15=>133|14=>286|28=>199|29=>200|20=>319|21=>320|22=>321|23=>322|24=>323|25=>324|26=>325|27=>326|46=>340|47=>260|48=>261|49=>341|50=>342|57=>346|n=>n,λ|22=>218|24=>222|25=>325|3=>3|39=>229|0=>0|53=>294|55=>296|4=>4|46=>288|45=>287|50=>267|5=>5|9=>9|66=>342|70=>60|76=>375|77=>376|n=>n,λ|n=>n⟩
theorem Tryz.avC:Go.Proofs.SlLaysF0.n6 Tryz.prog Tryz.avf:=⟨kr,⟨Tryz.f231.name,by decide,kr⟩,⟨Tryz.f286.name,by decide,kr⟩,kr,⟨Tryz.f319.name,by decide,kr⟩,⟨Tryz.f320.name,by decide,kr⟩,⟨Tryz.f321.name,by decide,kr⟩,⟨Tryz.f322.name,by decide,kr⟩,⟨Tryz.f323.name,by decide,kr⟩,⟨Tryz.f324.name,by decide,kr⟩,⟨Tryz.f325.name,by decide,kr⟩,⟨Tryz.f326.name,by decide,kr⟩,kr,kr,⟨Tryz.f340.name,by decide,kr⟩,kr,kr,⟨Tryz.f341.name,by decide,kr⟩,⟨Tryz.f342.name,by decide,kr⟩,⟨Tryz.f346.name,by decide,kr⟩,kr,λ_=>kr,λ_=>kr,λ_=>kr,kr,λ_=>kr,λ_=>kr,λ_=>kr,kr,λ_=>kr,λ_=>kr,λ_=>kr,kr,λ_=>kr,λ_=>kr,λ_=>kr,kr,λ_=>kr,λ_=>kr,λ_=>kr,kr,λ_=>kr,λ_=>kr,λ_=>kr,kr,λ_=>kr,λ_=>kr,λ_=>kr,kr,λ_=>kr,λ_=>kr,λ_=>kr,kr,λ_=>kr,λ_=>kr,λ_=>kr,kr,λ_=>kr,λ_=>kr,λ_=>kr,kr,λ_=>kr,λ_=>kr,λ_=>kr,kr,λ_=>kr,λ_=>kr,λ_=>kr,kr,λ_=>kr,λ_=>kr,λ_=>kr,kr,λ_=>kr,λ_=>kr,λ_=>kr,kr,λ_=>kr,λ_=>kr,λ_=>kr,kr,λ_=>kr,λ_=>kr,λ_=>kr,kr,λ_=>kr,λ_=>kr,λ_=>kr⟩
end Go.Proofs
end
section
namespace Go.Sx
open Go.Lib Go.Proofs Go.RowKit Go.Shelf Go.Sort Tryz
noncomputable def Fu:List SV->List Ob->Option atB:=jz .holding 232 [] da
@[go_sem]def aah {a:List atr}:Fu [.os 0,.fn 232 [] []] [.row .holding a]=some (fZ (apart da a) (.tup []) [.row .holding (srt da a)]):=oM
def K_:zM .holding:=λx s E=>by
 simp[cellsOf,aqg,aq_,or_false]at E;rcases E with rfl|rfl|rfl|rfl;all_goals exact⟨_,rfl,rfl⟩
def Fv (x y:atr):yX (.agg (cellsOf .holding x):: .agg (cellsOf .holding y)::[])=some (.det True (.i (da x y))):=by
 simp[go_sem]
def Ow:atA prog 231 Fu:=
 tJ (k:=.holding) Tryz.avC (λw=>by kernel_rfl) (λw=>by kernel_rfl) K_ (by decide) (g:=232) (caps:=[]) Eh (cf:=da) Fv Fk (λs E=>by cases E) ⟨default,default,Fv _ _⟩
end Go.Sx
end
section
namespace Go.Sx
open Go.Proofs Tryz
open IntKind (i64)
variable {p:Prop}
def clQ(h:p:=by((repeat' (first|with_reducible refine And.intro ?_ ?_|with_reducible intro _)) <;>(first|done|with_reducible exact Empty.elim ‹Empty› |with_reducible assumption|rfl|((try simp only[NW,ZQ]at *);first|with_reducible assumption|(simp_all only[cB,dY];done) |grind|(simp_all only[cB,dY];grind))))):p:=h
@[go_sem] def fO (c:ai)(d:List bo)(e f:Int)(a:A1×Int)(b:List atr):Empty⊕(List atr):=(bif(decide (a.2 > 0))then .inr (b++([({ right:=a.1.right,gl:=a.1.gl,bn:=a.2,att:=(c.bl.getD (Int.toNat a.1.right) default).att}:atr)]))else .inr b)
def oe (b:ai)(d:List bo)(e f:Int)(a:A1×Int)(c:List atr):Prop:=((decide (a.2 > 0))=true->((0<=a.1.right/\a.1.right< (b.bl.length:Int))/\((c++([({ right:=a.1.right,gl:=a.1.gl,bn:=a.2,att:=(b.bl.getD (Int.toNat a.1.right) default).att}:atr)])).length*32<=dh)))
def aJ (a:ai)(b:List bo)(c d:Int):List atr×Int:=letI e:=bj a b;(bif(e !=0)then([],e)else(bif((!(aY c 0 (i64.wrap (a.hours - 1)))) ||(!(aY d 0 1048576)))then([],1)else(match cS (fO a b c d) ((fo a (eX b c d)).1) ([])with| .inl x=>x.elim| .inr f=>((srt da f),0))))
def s4 (a:ai)(b:List bo)(c d:Int):Prop:=letI g:= !(aY c 0 (i64.wrap (a.hours - 1)));letI e:=aJ a b c d;letI f:=bj a b;letI h:= !(aY d 0 1048576);letI i:=eX b c d;letI j:=fO a b c d;((kO a b)/\(((f !=0)=true->(([],f)=e))/\((f !=0)=false->(((g||h)=true->(([],1)=e))/\((g||h)=false->((iX b c d)/\((mH a i)/\(∀ L_0,L_0.Perm ((fo a i).1)->(okL j (oe a b c d) L_0 ([])/\(∀ ee,cS j L_0 ([])=.inr ee->((apart da ee)/\(((srt da ee),0)=e))))))))))))
@[go_sem] def Bq:FI:=(pD .al λa=>(pR .C1 λb=>(pI λc=>(pI λd=>(pE (.det (s4 a b c d) (.tup [.nw .holding ((aJ a b c d).1),.i ((aJ a b c d).2)])))))))
def ae2{l0 l1:List Nat}(a0:JL l0)(a1:JL l1)(h:JL l0->JL l1->p:=by intro ja jb;simp only[go_sem,aq_];all_goals exact fM ja jb):p:=h a0 a1
def amr(h:p:=by simp only[go_sem];all_goals exact clQ):p:=h
theorem I3:P0 prog 157 Bq:=by
 have hG:=mG (cn [.st .al,.sl .C1] wz (cp vD (cn [.st .al,.o] BP (cn [.sl .C1,.o,.o] zS Q1)))) (co Ow Q1);refine fW hG f157 [(.tmp 8,.holding)] (ap λa0=>(aZ λa1=>(ax λW=>(ax λY=>(am (λhp=>?_))))));dsimp only[an,s4]at hp;refine⟨nbl rfl,(XO 0 (LCP (τ:=A1×Int) (ρ:=Empty) (σ:=(List atr)) 4 [.slot 8 (.row .holding ([]))] [0,1,2,3,4] (λE O V=>⟨[(4,.ptr 0 0),(8,.os 4),(41,.ptr 3 0)],[.cells (cellsOf .al a0),.mp .u0 .int ((fo a0 (eX a1 W Y)).1) (some (3,none)),.dead,.mi (some 1) (((fo a0 (eX a1 W Y)).1).length) E O,.row .holding V]⟩) (fO a0 a1 W Y) (oe a0 a1 W Y) ((fo a0 (eX a1 W Y)).1) ([]) ((·.elim)) ((·.elim)) (λV=>⟨[(8,.os 4)],[.dead,.dead,.dead,.dead,.row .holding V]⟩)) L0),?_,?_⟩
 ·unfold aa f157;simp only[ak,true_and,and_true]
  ·refine QC (eT .u0,eT .int) 3 mixed aC hG kr (λ_=>rfl) λE O V hp0=>⟨L0,ag _,?_⟩
   ·by_cases X:E=[]
    subst X;exact ae2 (jl [0,1,2,3,7]) (jl [0,1,2,3,4])
    ·simp only[go_sem,X];intro j hj0;obtain⟨aue,hq0⟩:=hp0 j hj0;unfold oe at hq0;all_goals exact fM (jl [0,1,2,3,7]) (jl [0,1,2,3,4])
 unfold aa f157;exact amr
@[go_sem] def Es (x:Claim):List SV:=[.agg (cellsOf .B1 x)]
@[go_sem] def La:FI:=(pD .al λd=>(pR .C1 λa=>(pI λb=>(pI λc=>(pE (.det True (.fn 156 [] [.ep (cellsOf .al d) 0,.ep [.rs .C1 a] 0,.ep [.i b] 0,.ep [.i c] 0])))))))
theorem I4:P0 prog 100 La:=by
 have hG:=mG Q1 Q1;refine fN hG f100 [.o] (ap λd=>(aZ λO=>(ax λhour=>(ax λknown=>(am (λE=>?_))))));refine⟨nbl rfl,L0,ag _,?_⟩;unfold aa f100;simp only[go_sem,vz,xp,Nat.reduceBEq,Nat.reduceLeDiff,Nat.reduceAdd,Nat.reduceSub,Nat.reduceMul]
@[go_sem] def ju (d:ai)(f:List bo)(a g:Int)(h:Nat)(e:List Claim):Empty⊕(List Claim):=letI b:=((aJ d f a g).1).getD h default;letI c:=d.bl.getD (Int.toNat (b.right)) default;(bif(((decide (a<c.since)) ||(decide (a > c.to))) ||(decide ((Int.tmod (i64.wrap (a - c.since)) (c.every))>=c.length)))then .inr e else .inr (e++[({ right:=b.right,gl:=b.gl,hour:=a,bn:=b.bn,att:=b.att}:Claim)]))
def pH (d:ai)(g:List bo)(b h:Int)(i:List (List SV))(j:Nat)(k:List Claim):Prop:=letI a:=((aJ d g b h).1).getD j default;letI c:=d.bl.getD (Int.toNat (a.right)) default;letI e:=decide (b<c.since);letI f:=decide (b > c.to);((0<=a.right/\a.right< (d.bl.length:Int))/\(((e||f)=false->c.every≠0)/\(((e||f) ||(decide ((Int.tmod (i64.wrap (b - c.since)) (c.every))>=c.length)))=false->(i[k.length]? =some (Es ({ right:=a.right,gl:=a.gl,hour:=b,bn:=a.bn,att:=a.att}:Claim))))))
def fP (d:ai)(a:List bo)(b c:Int):List Claim:=(match aj (ju d a b c) (((aJ d a b c).1).length) 0 ([]:List Claim)with| .inl x=>x.elim| .inr e=>e)
def l9 (d:ai)(a:List bo)(b c:Int)(f:List (List SV)):Prop:=letI e:=(aJ d a b c).1;letI g:=ju d a b c;((s4 d a b c)/\(e.length<=aD->(okI g (pH d a b c f) (e.length) 0 ([]:List Claim)/\(∀ ee,aj g (e.length) 0 ([]:List Claim)=.inr ee->(f.length=ee.length)))))
theorem Et (d:ai)(O:List bo)(hour known:Int)(E:List (List SV))(hp:l9 d O hour known E):CK prog 156 (λy=>[y,.ep (cellsOf .al d) 0,.ep [.rs .C1 O] 0,.ep [.i hour] 0,.ep [.i known] 0]) [] E:=by
 unfold l9 at hp;refine D3 mixed aC (fn:=f156) (c:=aa f156) kr kr kr kr rfl (n:=0) rfl (G:=λY=>CL [(157,λl=>Bq (Cg [.st .al,.sl .C1,.o,.o] l))] [] (FP E Y)) (λY hy=>?_) (λargs w=>by kernel_rfl);have hG:=mGY (cn [.st .al,.sl .C1,.o,.o] I3 Q1) Q1 hy;refine⟨hG,nbl rfl,(XO 0 (LCY (ρ:=Empty) (σ:=(List Claim)) 2 [] [0,1] (λW V=>⟨[(0,.os 0),(1,.ep (cellsOf .al d) 0),(3,.ep [.i hour] 0),(19,.os 1),(20,.i (((aJ d O hour known).1).length:Int)),(21,.i W)],[.ab (Y.1 (V.length+1)),.row .holding ((aJ d O hour known).1)]⟩) (ju d O hour known) (pH d O hour known E) (((aJ d O hour known).1).length) ([]:List Claim) (((aJ d O hour known).1).length<=aD) ((·.elim)) ((·.elim)) ⟨[],[.ab (Y.1 0),.dead]⟩) L0),?_,?_⟩;unfold aa f156;simp only[ak,true_and,and_true];refine vA aC hG (λ_=>rfl) (((aJ d O hour known).1).length:Int) eE (λhb0 W V aue X hw hc=>⟨L0,ag _,?_⟩) (λhb0 V hc=>?_);simp only[pH,hw,aqa]at X
 exact qQ (jl [0,1]);exact qR (jl [0,1]);unfold aa f156;exact QU (jl [0])
end Go.Sx
end
section
namespace Go.Proofs
open Go.Shelf Go.Sx
def Tryz.au5:Go.Shelf.Ren:=⟨λ|6=>105|15=>133|14=>162|28=>199|29=>200|20=>235|21=>236|22=>237|23=>238|24=>239|25=>240|26=>241|27=>242|46=>287|47=>260|48=>261|49=>288|50=>289|57=>327|n=>n,λ|22=>115|24=>119|25=>186|3=>3|39=>229|0=>0|53=>294|55=>296|4=>4|46=>288|45=>287|50=>267|5=>5|9=>9|66=>342|70=>60|76=>375|77=>376|n=>n,λ|n=>n⟩
theorem Tryz.avx:Go.Proofs.SlLaysF0.n6 Tryz.prog Tryz.au5:=⟨kr,⟨Tryz.f105.name,by decide,kr⟩,⟨Tryz.f162.name,by decide,kr⟩,kr,⟨Tryz.f235.name,by decide,kr⟩,⟨Tryz.f236.name,by decide,kr⟩,⟨Tryz.f237.name,by decide,kr⟩,⟨Tryz.f238.name,by decide,kr⟩,⟨Tryz.f239.name,by decide,kr⟩,⟨Tryz.f240.name,by decide,kr⟩,⟨Tryz.f241.name,by decide,kr⟩,⟨Tryz.f242.name,by decide,kr⟩,kr,kr,⟨Tryz.f287.name,by decide,kr⟩,kr,kr,⟨Tryz.f288.name,by decide,kr⟩,⟨Tryz.f289.name,by decide,kr⟩,⟨Tryz.f327.name,by decide,kr⟩,kr,λ_=>kr,λ_=>kr,λ_=>kr,kr,λ_=>kr,λ_=>kr,λ_=>kr,kr,λ_=>kr,λ_=>kr,λ_=>kr,kr,λ_=>kr,λ_=>kr,λ_=>kr,kr,λ_=>kr,λ_=>kr,λ_=>kr,kr,λ_=>kr,λ_=>kr,λ_=>kr,kr,λ_=>kr,λ_=>kr,λ_=>kr,kr,λ_=>kr,λ_=>kr,λ_=>kr,kr,λ_=>kr,λ_=>kr,λ_=>kr,kr,λ_=>kr,λ_=>kr,λ_=>kr,kr,λ_=>kr,λ_=>kr,λ_=>kr,kr,λ_=>kr,λ_=>kr,λ_=>kr,kr,λ_=>kr,λ_=>kr,λ_=>kr,kr,λ_=>kr,λ_=>kr,λ_=>kr,kr,λ_=>kr,λ_=>kr,λ_=>kr,kr,λ_=>kr,λ_=>kr,λ_=>kr,kr,λ_=>kr,λ_=>kr,λ_=>kr⟩
end Go.Proofs
end
section
namespace Go.Sx
open Go.Lib Go.Proofs Go.RowKit Go.Shelf Go.Sort Tryz
noncomputable def Fx:List SV->List Ob->Option atB:=jz .ate 106 [] fX
@[go_sem]def aai {a:List Y1}:Fx [.os 0,.fn 106 [] []] [.row .ate a]=some (fZ (apart fX a) (.tup []) [.row .ate (srt fX a)]):=oM
def Ro:zM .ate:=λx s E=>by
 simp[cellsOf,aqg,aq_,or_false]at E;rcases E with rfl|rfl|rfl|rfl|rfl|rfl;all_goals exact⟨_,rfl,rfl⟩
def Mq (x y:Y1):zX (.agg (cellsOf .ate x):: .agg (cellsOf .ate y)::[])=some (.det True (.i (fX x y))):=by
 simp[go_sem]
def Ox:atA prog 105 Fx:=
 tJ (k:=.ate) Tryz.avx (λw=>by kernel_rfl) (λw=>by kernel_rfl) Ro (by decide) (g:=106) (caps:=[]) Gc (cf:=fX) Mq Mo (λs E=>by cases E) ⟨default,default,Mq _ _⟩
end Go.Sx
end
section
namespace Go.Sx
open Go.Proofs Tryz
open IntKind (i64)
@[go_sem] def gn (b:ai)(g:List bo)(h:Int)(f:List Y1×Int)(a:Claim)(c:List Y1):Empty⊕(List Y1):=letI d:=(nI b ((b.zs.getD (Int.toNat a.gl) default).reach)).1;letI e:=dP d (cL b f.2) a;(bif(decide (e>=0))then .inr (c++([({ B1:=a,reach:=(d.getD (Int.toNat e) 0)}:Y1)]))else .inr (c++([({ B1:=a,reach:=(-1)}:Y1)])))
def iR (b:ai)(h:List bo)(i:Int)(g:List Y1×Int)(a:Claim)(e:List Y1):Prop:=letI f:=(b.zs.getD (Int.toNat a.gl) default).reach;letI d:=(nI b f).1;letI c:=dP d (cL b g.2) a;((0<=a.gl/\a.gl< (b.zs.length:Int))/\((sZ b f)/\(((decide (c>=0))=true->((0<=c/\c< (d.length:Int))/\((e++([({ B1:=a,reach:=(d.getD (Int.toNat c) 0)}:Y1)])).length*48<=dh)))/\((decide (c>=0))=false->((e++([({ B1:=a,reach:=(-1)}:Y1)])).length*48<=dh)))))
@[go_sem] def kp (b:ai)(c:List bo)(e d:Int)(g:Nat)(a:List Y1×Int):(List Y1)⊕(List Y1×Int):=(bif(decide (a.2<=e))then(match cS (gn b c d a) (fP b c a.2 d) a.1 with| .inl x=>x.elim| .inr f=>.inr (f,(i64.wrap (a.2+1))))else .inl a.1)
def pi (b:ai)(c:List bo)(e d:Int)(f:Nat)(a:List Y1×Int):Prop:=((decide (a.2<=e))=true->((l9 b c a.2 d ((fP b c a.2 d).map Es))/\okL (gn b c d a) (iR b c d a) (fP b c a.2 d) a.1))
def fF (a:ai)(e:List bo)(b c d:Int):List Y1×Int:=letI f:=bj a e;(bif(f !=0)then([],f)else(bif(((((decide (b<0)) ||(decide (b > c))) ||(decide (c>=a.hours))) ||(decide (d<0))) ||(decide (d > 1048576)))then([],1)else(bif(decide ((i64.wrap ((i64.wrap ((i64.wrap (c - b))+1))*(a.bl.length:Int))) > 4096))then([],2)else(match aj (kp a e c d) 4098 0 ([],b)with| .inl g=>((srt fX g),0) | .inr h=>default))))
def ra (a:ai)(d:List bo)(b c e:Int):Prop:=letI f:=kp a d c e;((kO a d)/\(((bj a d) !=0)=false->((((((decide (b<0)) ||(decide (b > c))) ||(decide (c>=a.hours))) ||(decide (e<0))) ||(decide (e > 1048576)))=false->(a.bl.length<=aD->((decide ((i64.wrap ((i64.wrap ((i64.wrap (c - b))+1))*(a.bl.length:Int))) > 4096))=false->(okI f (pi a d c e) 4098 0 ([],b)/\(∀ z_,aj f 4098 0 ([],b)≠ .inr z_)/\(∀ lx,aj f 4098 0 ([],b)=.inl lx->(apart fX lx))))))))
@[go_sem] def Oy:FI:=(pD .al λa=>(pR .C1 λb=>(pI λc=>(pI λd=>(pI λe=>(pE (.det (ra a b c d e) (.tup [.nw .ate ((fF a b c d e).1),.i ((fF a b c d e).2)]))))))))
variable {p:Prop}
def ams(h:p:=by simp only[go_sem,e1_0,e1_1,e1_2,e1_3,e1_4,e1_5,e1_6,e1_7]):p:=h
def amt{l0 l1:List Nat}(a0:JL l0)(a1:JL l1)(h:JL l0->JL l1->p:=by intro ja jb;simp only[go_sem,gk,gn,psT,Es,aqB,aqs];all_goals exact fM ja jb):p:=h a0 a1
def ae3{l0 l1:List Nat}(a0:JL l0)(a1:JL l1)(h:JL l0->JL l1->p:=by intro ja jb;simp only[go_sem,gk];all_goals exact fM ja jb):p:=h a0 a1
def amu(h:p:=by simp only[go_sem,gk];all_goals exact cl):p:=h
theorem Lb:P0 prog 56 Oy:=by
 have hG:=mG (cn [.st .al,.sl .C1] wz (cn [.st .al,.o] Ga (cn [.st .al,.sl .C1,.o,.o] I4 (cn [.st .al,.o] IX (cn [.sl .int,.o] ud Q1))))) (co Ox Q1);refine fW hG f56 [(.cell 10 0,.ate)] (ap λa0=>(aZ λa1=>(ax λa2=>(ax λX=>(ax λO=>(am (λY=>?_)))))));dsimp only[an,ra]at Y;refine⟨nbl rfl,(XO 0 (LCV (ρ:=(List Y1)) (σ:=(List Y1×Int)) 2 [.cell 1 0 (.row .ate ([]))] [0,1,2] (λW1 E=>⟨[(1,.rs .C1 a1),(3,.i X),(4,.i O),(5,.ptr 0 0),(10,.ptr 1 0),(12,.i E.2)],[.cells (cellsOf .al a0),.cells [.os 2],.row .ate E.1]⟩) (kp a0 a1 X O) (pi a0 a1 X O) 4098 ([],a2) (λ_=>.normal) (λW=>⟨[(10,.ptr 1 0)],[.dead,.cells [.os 2],.row .ate W]⟩)) L0),?_,?_⟩
 ·unfold aa f56;simp only[ak,true_and,and_true]
  ·refine dH aC hG (λ_=>rfl) λW1 E hq0=>⟨(XO 2 (λst=>LC (ρ:=Empty) (σ:=List Y1) (lk 1 st.t=.rs .C1 a1/\lk 3 st.t=.i X/\lk 4 st.t=.i O/\lk 5 st.t=.ptr 0 0/\lk 10 st.t=.ptr 1 0/\lk 12 st.t=.i E.2/\lk 13 st.t=.ptr 6 0/\lk 68 st.t=.fn 156 [] [.ep (cellsOf .al a0) 0,.ep [.rs .C1 a1] 0,.ep [.i E.2] 0,.ep [.i O] 0]/\st.h=[.cells (cellsOf .al a0),.cells [.os 2],.row .ate E.1,.mp .int .int ((cL a0 E.2).auz) none,.mp .X2 .bool ((cL a0 E.2).owned) none,.mp .X2 .bool ((cL a0 E.2).aus) none,.cells [.os 3,.os 4,.os 5]]/\l9 a0 a1 E.2 O ((fP a0 a1 E.2 O).map Es)/\okL (gn a0 a1 O E) (iR a0 a1 O E) (fP a0 a1 E.2 O) E.1) (cS (gn a0 a1 O E) (fP a0 a1 E.2 O) E.1) (λx=>x.elim) (λx=>x.elim) (λV=>⟨[(1,.rs .C1 a1),(3,.i X),(4,.i O),(5,.ptr 0 0),(10,.ptr 1 0),(12,.i E.2),(13,.ptr 6 0)],[.cells (cellsOf .al a0),.cells [.os 7],.dead,.mp .int .int ((cL a0 E.2).auz) none,.mp .X2 .bool ((cL a0 E.2).owned) none,.mp .X2 .bool ((cL a0 E.2).aus) none,.cells [.os 3,.os 4,.os 5],.row .ate V]⟩)) L0),?_,?_⟩
   ·simp only[ak,true_and,and_true]
    ·refine uR mixed aC hG (by decide) (by decide) kr kr λst lc hC Y=>?_;simp only[go_sem,Nat.reduceBEq,aqd]at hC;subst hC;obtain⟨t,h⟩:=st;dsimp only[LC]at Y;obtain⟨e1_0,e1_1,e1_2,e1_3,e1_4,e1_5,e1_6,e1_7,rfl,hb1,hok1⟩:=Y;refine⟨156,[.ep (cellsOf .al a0) 0,.ep [.rs .C1 a1] 0,.ep [.i E.2] 0,.ep [.i O] 0],Claim,_,_,(fP a0 a1 E.2 O),Es,(gn a0 a1 O E),(iR a0 a1 O E),_,E.1,_,_,_,[(1,.rs .C1 a1),(3,.i X),(4,.i O),(5,.ptr 0 0),(10,.ptr 1 0),(12,.i E.2),(13,.ptr 6 0)],(λV=>[.cells (cellsOf .al a0),.cells [.os 7],.dead,.mp .int .int ((cL a0 E.2).auz) none,.mp .X2 .bool ((cL a0 E.2).owned) none,.mp .X2 .bool ((cL a0 E.2).aus) none,.cells [.os 3,.os 4,.os 5],.row .ate V]),(λx=>x.elim),[0,1,2,3,4,5,6,2],?_,rfl,hok1,nbl rfl,?_,Et a0 a1 E.2 O _ hb1,λz_1 V hq1=>⟨rfl,L0,λl=>?_,λl=>?_,?_⟩,λV=>?_,λy=>?_⟩;exact ams
     ·simp only[go_sem,ww,lB,aqx,arp,aqs,aqo,aq4,e1_0,e1_1,e1_2,e1_3,e1_4,e1_5,e1_6,e1_7];all_goals (first|done|decide|(repeat' (first|refine And.intro ?_ ?_|rfl|decide)))
     simp only[ak,and_self,true_and,and_true];simp only[ak,and_self,true_and,and_true];unfold iR at hq1;exact amt (jl [0,1,2,3,4,5,6,12]) (jl [0,1,2,3,4,5,6,7]);exact ae3 (jl [0,1,2,3,4,5,6,12]) (jl [0,1,2,3,4,5,6,7]);exact ae3 (jl [0,1,2,3,4,5,6,12]) (jl [0,1,2,3,4,5,6,7])
   unfold pi at hq0;exact oR (jl [0,1,7]) (jl [0,1,2])
 unfold aa f56;try unfold fF
 exact amu
@[go_sem] def rb (d:ai)(a:List bo)(b c e:Int)(f:Nat)(g:List Claim):Empty⊕(List Claim):=(bif(decide ((((fF d a b c e).1).getD f default).reach<0))then .inr (g++([(((fF d a b c e).1).getD f default).B1]))else .inr g)
def vN (d:ai)(a:List bo)(b c e:Int)(f:Nat)(g:List Claim):Prop:=((decide ((((fF d a b c e).1).getD f default).reach<0))=true->((g++([(((fF d a b c e).1).getD f default).B1])).length*40<=dh))
def aQ (d:ai)(b:List bo)(c e f:Int):List Claim×Int:=letI a:=fF d b c e f;(bif(a.2 !=0)then([],a.2)else(match aj (rb d b c e f) ((a.1).length) 0 ([])with| .inl x=>x.elim| .inr g=>(bif(decide ((g.length:Int) > 4096))then([],2)else(g,0))))
def wE (d:ai)(a:List bo)(b c e:Int):Prop:=letI f:=fF d a b c e;((ra d a b c e)/\((f.2 !=0)=false->((f.1).length<=aD->okI (rb d a b c e) (vN d a b c e) ((f.1).length) 0 ([]))))
@[go_sem] def Rp:FI:=(pD .al λd=>(pR .C1 λa=>(pI λb=>(pI λc=>(pI λe=>(pE (.det (wE d a b c e) (.tup [.rs .B1 ((aQ d a b c e).1),.i ((aQ d a b c e).2)]))))))))
theorem Oz:P0 prog 17 Rp:=by
 have hG:=mG (cn [.st .al,.sl .C1,.o,.o,.o] Lb Q1) Q1;refine fN hG f17 [.sl .B1,.o] (ap λd=>(aZ λO=>(ax λfr=>(ax λto=>(ax λknown=>(am (λY=>?_)))))));dsimp only[an,wE]at Y;refine⟨nbl rfl,(XO 0 (LCR (ρ:=Empty) (σ:=(List Claim)) 2 [.slot 10 (.row .B1 ([]))] [0,1,2] (λV E=>⟨[(10,.os 2),(27,.os 1),(28,.i (((fF d O fr to known).1).length:Int)),(29,.i V)],[.dead,.row .ate ((fF d O fr to known).1),.row .B1 E]⟩) (rb d O fr to known) (vN d O fr to known) (((fF d O fr to known).1).length) ([]) (((fF d O fr to known).1).length<=aD) ((·.elim)) ((·.elim))) L0),?_,?_⟩;unfold aa f17;simp only[ak,true_and,and_true];refine bG aC hG (λ_=>rfl) (((fF d O fr to known).1).length:Int) eE (λhb0 V E X W hw hc=>⟨L0,ag _,?_⟩) (λhb0 E hc=>?_);simp only[vN,hw,aqa]at W
 exact lZ (jl [0,1,5]) (jl [0,1,2]);exact kP (jl [0,1,5]) (jl [0,1,2]);exact Ce @aQ.eq_1
variable {n:Int}
theorem Vq{d:Int}(hd:1<=d)(V:d<=1073741824)(h1: -1152921504606846976<=n)(h2:n<=1152921504606846976):nc n d=n / d:=by
 unfold nc;have E:Int.tmod (Int.tmod n d+d) d=n % d:=by
  have a1: -d<Int.tmod n d:=ar9 n XM;rw[arA XM];rw[asM];split
  simp_all;have:n % d - (d.natAbs:Int)=n % d+d*(-1):=XM
  simp_all
 have a1: -d<Int.tmod n d:=ar9 n XM;have X:Int.tmod n d<d:=atb n XM;rw[ar (by omega: -9223372036854775808<=Int.tmod n d+d) XM,E];have Y:=arF n (by omega:d≠0);have W:=arq n (by omega:0<d);rw[ar (by omega: -9223372036854775808<=n - n % d) XM];have O:n - n % d=d*(n / d):=by have:=arC n d;omega
 rw[O,asD _ XM];have c1:n / d<=1152921504606846976:=by
  have:=ars (by omega:0<d) h2;have:=asn (b:=d) (by omega:(0:Int)<=1152921504606846976);omega
 have c2: -1152921504606846976<=n / d:=by
  rw[arb XM];omega
 exact ar XM XM
def ma {κ υ:Type}(l:List (κ×υ)):List κ:=l.map λp=>p.1
theorem Mr {κ υ:Type}[DecidableEq κ]:∀ {l:List (κ×υ)} {x:κ},x ∉ ma l->i6 l x=none
 | [],_,_=>rfl
 |(a,b)::r,x,h=>by
  unfold i6;rw[if_neg (λe=>h (by simp[ma,e]))];exact Mr λE=>h (by grind [ma])
theorem I5 {κ υ:Type}[DecidableEq κ]:∀ {l:List (κ×υ)},(ma l).Nodup->∀ {x:κ} {y:υ},i6 l x=some y↔(x,y)∈l
 | [],_,x,y=>by simp[i6]
 |(a,b)::r,h,x,y=>by
  have h':=aqQ.1 h;unfold i6;by_cases e:x=a
  grind
  rw[if_neg e,I5 h'.2];grind
theorem xG {κ υ:Type}[DecidableEq κ](x:κ)(y:υ):∀ (l:List (κ×υ)),(ma l).Nodup->(ma (v9 l x y)).Nodup/\∀ z,z∈ma (v9 l x y)->z=x\/z∈ma l
 | [],_=>by simp[v9,ma]
 |(a,b)::r,h=>by
  have h':=aqQ.1 h;unfold v9;by_cases e:x=a
  subst e;rw[if_pos rfl];exact⟨h,λz hz=>.inr hz⟩;rw[if_neg e];have⟨g1,g2⟩:=xG x y r h'.2;refine⟨aqQ.2 ⟨λE=>?_,g1⟩,λz hz=>?_⟩;rcases g2 _ E with h3|h3;grind
  exact h'.1 h3;rcases aqg.1 hz with rfl|hz;exact .inr aqh;rcases g2 z hz with h3|h3;exact .inl h3;exact .inr (aqj _ h3)
theorem Eu {κ υ:Type}[DecidableEq κ](x:κ):∀ (l:List (κ×υ)),(ma l).Nodup->(ma (DH l x)).Nodup/\(∀ z,z∈ma (DH l x)->z∈ma l)/\∀ z,i6 (DH l x) z=if z=x then none else i6 l z
 | [],_=>by simp[DH,ma,i6]
 |(a,b)::r,h=>by
  have h':=aqQ.1 h;unfold DH;by_cases e:x=a
  subst e;rw[if_pos rfl];refine⟨h'.2,λz hz=>aqj _ hz,λz=>?_⟩;by_cases hz:z=x
  subst hz;rw[if_pos rfl];exact Mr h'.1;simp_all [i6];rw[if_neg e];have⟨g1,g2,g3⟩:=Eu x r h'.2;refine⟨aqQ.2 ⟨λE=>h'.1 (g2 _ E),g1⟩,λz hz=>?_,λz=>?_⟩;rcases aqg.1 hz with rfl|hz;exact aqh;exact aqj _ (g2 z hz);simp[i6];grind
def tot:Nat->(Int->Int)->Int
 |0,_=>0|n+1,g=>tot n g+g (n:Int)
def kq (g:Int->Int)(f v:Int):Int->Int:=λx=>if x=f then v else g x
theorem Rq {g h:Int->Int}:∀ {n:Nat},(∀ f:Int,0<=f->f< (n:Int)->g f=h f)->tot n g=tot n h
 |0,_=>rfl
 |n+1,e=>by unfold tot;rw[Rq (n:=n) λf h1 h2=>e f h1 XM,e n XM XM]
theorem yp (g:Int->Int)(f v:Int):∀ (n:Nat),0<=f->f< (n:Int)->tot n (kq g f v)=tot n g - g f+v
 |0,h0,h1=>XM
 |n+1,h0,h1=>by
  unfold tot;by_cases h:f=(n:Int)
  subst h;rw[Rq (g:=kq g n v) (h:=g) λx _ E=>by unfold kq;omega];simp_all [kq];rw[yp g f v n h0 XM];unfold kq;omega
theorem aaj {g:Int->Int}(h:∀ f,0<=g f):∀ n,0<=tot n g
 |0=>aqO _
 |n+1=>by have:=aaj h n;grind [tot]
theorem I6 {g:Int->Int}(h:∀ f,0<=g f):∀ (n:Nat) (f:Int),0<=f->f< (n:Int)->g f<=tot n g
 |0,f,h0,h1=>XM
 |n+1,f,h0,h1=>by
  unfold tot;have h2:=aaj h n;by_cases e:f=(n:Int)
  grind
  have:=I6 h n f h0 XM;grind
structure Good (F:Nat)(L:Int)(g:Int->Int):Prop where
 nn:∀ f,0<=g f
 sup:∀ f,g f≠0->0<=f/\f< (F:Int)
 tot:tot F g<=L
variable {F:Nat}{L:Int}{g:Int->Int}
theorem Good.le(h:Good F L g)(E:0<=L)(f:Int):g f<=L:=by
 by_cases e:g f=0
 omega;have⟨a,b⟩:=h.sup f e;exact ast (I6 h.nn F f a b) h.tot
variable {M:Int}
theorem Good.put(h:Good F L g){f v:Int}(V:0<=f)(h1:f< (F:Int))(O:0<=v)(W:Go.Sx.tot F g - g f+v<=M):Good F M (kq g f v) where
 nn:=λx=>by unfold kq;split;exact O;exact h.nn x
 sup:=λx E=>by
  unfold kq at E;split at E
  omega;exact h.sup x E
 tot:=by grind [yp]
def loP (p:Part)(n:Int):Int:=p.share.n*n / p.share.d
variable {a:W2}
theorem aak(h:atM a)(X:0<=n)(h1:n<=1073741824):(eF a n).1=a.n*n / a.d/\(eF a n).2.1= -(-(a.n*n) / a.d)/\(eF a n).2.2=0:=by
 have hb: -1152921504606846976<=a.n*n/\a.n*n<=1152921504606846976:=by
  have:(a.n*n).natAbs<=1073741824*1073741824:=by rw[asZ];exact arY (by have:=h.n0;have:=h.n;omega) XM
  omega
 have hd:=h.d1;have E:=h.d;have O:=h.n0;have V:=h.n;unfold eF;rw[(gK a).2 h];have W: -a.n*n= -(a.n*n):=Int.neg_mul _ _;rw[ar (n:=a.n*n) XM XM,ar (n:=0 - a.n) XM XM,show 0 - a.n= -a.n by omega,W,ar (n:= -(a.n*n)) XM XM,Vq hd E XM XM,Vq hd E XM XM];have c1: -(a.n*n) / a.d<=1152921504606846976:=by
  have:=ars (by omega:0<a.d) (by omega: -(a.n*n)<=1152921504606846976);have:=asn (b:=a.d) (by omega:(0:Int)<=1152921504606846976);omega
 have Y: -1152921504606846976<= -(a.n*n) / a.d:=by
  rw[arb XM];omega
 grind [ar]
theorem aal{p:Part}(h:atM p.share)(O:0<p.share.n)(E:0<=n):0<=loP p n:=by
 exact Int.ediv_nonneg (arO XM E) (by have:=h.d1;omega)
theorem aam {x d:Rat}(hd:0<d)(h:0<=x*d):0<=x:=by
 rcases asR (0<=x)with h1|h1;exact h1;have h2:0< -x:=XN
 have E:=Rat.mul_pos h2 hd;grind
theorem ahE {p:Part}(h:atM p.share)(n:Int):((loP p n:Int):Rat)<=rv p.share*(n:Rat)/\rv p.share*(n:Rat)<=((loP p n:Int):Rat)+1:=by
 have hd:=h.d1;have V:(0:Rat) < (p.share.d:Rat):=by exact_mod_cast (by omega:(0:Int) <p.share.d)
 have X:rv p.share*(p.share.d:Rat)=(p.share.n:Rat):=by grind [rv]
 have q:=arC (p.share.n*n) p.share.d;have q1:=arF (p.share.n*n) (by omega:p.share.d≠0);have q2:=arq (p.share.n*n) (by omega:0<p.share.d);have Y:p.share.d*loP p n<=p.share.n*n:=by unfold loP;omega
 have W:p.share.n*n<=p.share.d*loP p n+p.share.d:=by unfold loP;omega
 have E:(p.share.d:Rat)*((loP p n:Int):Rat)<=(p.share.n:Rat)*(n:Rat):=by exact_mod_cast Y
 have O:(p.share.n:Rat)*(n:Rat)<=(p.share.d:Rat)*((loP p n:Int):Rat)+(p.share.d:Rat):=by exact_mod_cast W
 rw[<-X]at E O;generalize ((loP p n:Int):Rat)=lo at *;generalize (n:Rat)=m at *;generalize rv p.share=v at *;constructor
 have:=aam (x:=v*m - lo) V XN;grind
 have:=aam (x:=lo+1 - v*m) V XN;grind
def eZ (l:List Part)(n:Int):Int:=(l.map λp=>loP p n).sum
variable {l:List Part}
theorem ahF(h:∀ p∈l,atM p.share)(n:Int):((eZ l n:Int):Rat)<=Ek l*(n:Rat)/\Ek l*(n:Rat)<=((eZ l n+(l.length:Int):Int):Rat):=by
 induction l with
 |nil=>simp[eZ,Ek]
 |cons p r O=>
  have⟨j1,j2⟩:=ahE (h p aqh) n;have e:eZ (p::r) n=loP p n+eZ r n:=by simp[eZ]
  have E:((eZ (p::r) n:Int):Rat)=((loP p n:Int):Rat)+((eZ r n:Int):Rat):=by simp_all
  simp[Ek];grind
theorem OA{d:ai}(h:auw d l)(n:Int):eZ l n<=n/\n<=eZ l n+(l.length:Int):=by
 have⟨h1,h2⟩:=ahF (λp E=>(h.part p E).share) n;rw[h.sum,Rat.one_mul]at h1 h2;exact⟨by exact_mod_cast h1,by exact_mod_cast h2⟩
theorem aan {p q:Nat}(E:0<q):Int.tmod (-(p:Int)) (-(q:Int))= -((p % q:Nat):Int):=by
 simp_all [arA]
theorem I7 (a1:Int):∀ (n i:Nat) (p q:Nat),q<n->∃ a b,aj (mo a1) n i (-(p:Int),-(q:Int))=.inl (a,b)/\((b= -1/\Nat.gcd p q=1)\/(b=0/\a= -((Nat.gcd p q:Nat):Int)))
 |0,_,_,_,h=>XM
 |n+1,i,p,q,h=>by
  simp only[aj,mo];by_cases h1:1<q
  rw[aan XM];have hlt:p % q<q:=ar8 _ XM;have⟨a,b,e,h2⟩:=I7 a1 n (i+1) q (p % q) XM;grind [Nat.gcd_comm,Nat.gcd_rec]
  rw[decide_eq_false XM];refine⟨_,_,rfl,?_⟩;by_cases E:q=0
  grind
  have:q=1:=XM
  simp_all
theorem W3{d:Int}(X: -4611686018427387904<=n)(h1:n<=4611686018427387904)(h2: -4611686018427387904<=d)(h3:d<=4611686018427387904):qT n d/\r8 n d=mkR n d:=by
 unfold qT r8;by_cases hd:d=0
 grind [mkR]
 have ex:(bif(decide (n > 0))then(i64.wrap (0 - n))else n)= -((n.natAbs:Nat):Int):=by
  by_cases h:n > 0
  rw[decide_eq_true h,cond_true,ar XM XM];omega;grind
 have W:(bif(decide (d > 0))then(i64.wrap (0 - d))else d)= -((d.natAbs:Nat):Int):=by
  by_cases h:d > 0
  rw[decide_eq_true h,cond_true,ar XM XM];omega;grind
 rw[ex,W];have⟨a,b,er,hr⟩:=I7 d (Int.natAbs d+2) 0 n.natAbs d.natAbs XM;rw[er];have Y:0<Nat.gcd n.natAbs d.natAbs:=Nat.gcd_pos_of_pos_right _ XM;have E:okI (mo d) (pg d) (Int.natAbs d+2) 0 (-((n.natAbs:Nat):Int),-((d.natAbs:Nat):Int)):=eu _ _ _ λj s _ _ h=>XN
 simp only;have l1:n.natAbs / Nat.gcd n.natAbs d.natAbs<=n.natAbs:=asr _ _;have l2:d.natAbs / Nat.gcd n.natAbs d.natAbs<=d.natAbs:=asr _ _;rcases hr with⟨rfl,O⟩ | ⟨rfl,rfl⟩
 ·
  have t:∀ m:Nat,Int.tdiv (-(m:Int)) (-1)=(m:Int):=λm=>XN
  unfold mkR;rw[O,t,t];by_cases V:1073741824<n.natAbs\/1073741824<d.natAbs
  grind
  rw[ar (n:=((n.natAbs:Nat):Int)) XM XM,ar (n:=((d.natAbs:Nat):Int)) XM XM,ar (n:=0 - ((n.natAbs:Nat):Int)) XM XM];grind
 have t:∀ m:Nat,Int.tdiv (-(m:Int)) (-((Nat.gcd n.natAbs d.natAbs:Nat):Int))=((m / Nat.gcd n.natAbs d.natAbs:Nat):Int):=λm=>by simp_all
 unfold mkR;rw[t,t];generalize hx:n.natAbs / Nat.gcd n.natAbs d.natAbs=x at *;generalize hy:d.natAbs / Nat.gcd n.natAbs d.natAbs=y at *;by_cases V:1073741824<x\/1073741824<y
 have e1:((decide (i64.wrap (x:Int) > 1073741824)) ||(decide (i64.wrap (y:Int) > 1073741824)))=true:=by
  rw[ar XM XM,ar XM XM,aqG,decide_eq_true_eq,decide_eq_true_eq];omega
 grind
 rw[ar (n:=(x:Int)) XM XM,ar (n:=(y:Int)) XM XM,ar (n:=0 - (x:Int)) XM XM];grind
theorem Rr (a b:W2):tO a b/\uW a b=iB a b:=by
 rw[TK];unfold tO uW;have V:ko a b=((aX a==0)&&(aX b==0)):=by grind [ko,vG]
 rw[V];by_cases h:aX a=0/\aX b=0
 have E:=(gK a).1 h.1;have O:=(gK b).1 h.2;have m1:=F8 E.n0 E.n O.d1 O.d;have W:=F8 O.n0 O.n E.d1 E.d;have h1:=E.d1;have h2:=E.d;have X:=F8 (a:=a.d) XM h2 O.d1 O.d;rw[h.1,h.2,ar (n:=a.n*b.d) XM XM,ar (n:=b.n*a.d) XM XM,ar (n:=a.d*b.d) XM XM,ar (n:=a.n*b.d+b.n*a.d) XM XM];have⟨p,e⟩:=W3 (n:=a.n*b.d+b.n*a.d) (d:=a.d*b.d) XM XM XM XM;rw[e];exact⟨⟨TJ a b,λ_=>p⟩,rfl⟩;have:((aX a==0)&&(aX b==0))=false:=by
  grind
 rw[if_neg h,this];exact⟨⟨TJ a b,(λh=>by cases h)⟩,rfl⟩
theorem aao{d:Int}(hd:1<=d)(W:d<=1073741824)(h1: -1152921504606846976<=n)(h2:n<=1152921504606846976):qj n d=n / d:=by
 unfold qj;have X:=arF n (by omega:d≠0);have Y:=arq n (by omega:0<d);have c1:n / d<=1152921504606846976:=by
  have:=ars (by omega:0<d) h2;have:=asn (b:=d) (by omega:(0:Int)<=1152921504606846976);omega
 have c2: -1152921504606846976<=n / d:=by
  rw[arb XM];omega
 have V:d.sign=1:=Int.sign_eq_one_of_pos XM;have E:=Int.tdiv_eq_ediv (a:=n) (b:=d);have O:=asM (a:=n) (b:=d);by_cases hn:0<=n\/d ∣ n
 rw[if_pos hn]at E O;rw[decide_eq_false XM,cond_false,ar XM XM];omega;rw[if_neg hn]at E O;rw[E,V,decide_eq_true XM,cond_true,ar (n:=n / d+1) XM XM,ar XM XM];omega
theorem TT(h:atM a)(O:0<=n)(h1:n<=1073741824):oQ a n/\(gM a n).1=a.n*n / a.d:=by
 have V: -1152921504606846976<=a.n*n/\a.n*n<=1152921504606846976:=by
  have:(a.n*n).natAbs<=1073741824*1073741824:=by rw[asZ];exact arY (by have:=h.n0;have:=h.n;omega) XM
  omega
 have hd:=h.d1;have E:=h.d;refine⟨⟨wB a,λ_ _=>⟨⟨XM,XM⟩,⟨XM,XM⟩⟩⟩,?_⟩;unfold gM;rw[(sa a).2 h];grind [ar,aao]
theorem I8 {ρ ρ' σ σ':Type}{f:Nat->σ->ρ⊕σ}{g:Nat->σ'->ρ'⊕σ'}(R:Nat->σ->σ'->Prop):∀ (n i:Nat) (s:σ) (t:σ'),R i s t->(∀ j s t,i<=j->j<i+n->R j s t->(∃ a b,f j s=.inl a/\g j t=.inl b)\/∃ s' t',f j s=.inr s'/\g j t=.inr t'/\R (j+1) s' t')->
  (∃ a b,aj f n i s=.inl a/\aj g n i t=.inl b)\/∃ s' t',aj f n i s=.inr s'/\aj g n i t=.inr t'/\R (i+n) s' t'
 |0,i,s,t,h,_=>.inr ⟨s,t,rfl,rfl,h⟩
 |n+1,i,s,t,h,hs=>by
  rcases hs i s t (aqb _) XM h with⟨a,b,E,O⟩ | ⟨s',t',E,O,h'⟩;grind [aj]
  simp[aj];have:=I8 R n (i+1) s' t' h' λj s t h1 h2=>hs j s t XM XM;grind
theorem adp (l:List Part)(k:Nat):aj (kR l k) k 0 ()=.inr ()↔∀ i,i<k->(l.getD i default).gl≠(l.getD k default).gl:=by
 rw[gf];unfold kR;grind
theorem W4 (l:List Part)(k:Nat)(O:k<=l.length)(f:Int):f∈(l.take k).map (λx=>x.gl)↔∃ i,i<k/\(l.getD i default).gl=f:=by
 rw[aq1];constructor
 rintro⟨x,E,rfl⟩;obtain⟨i,hi,rfl⟩:=aqP.1 E;rw[ara]at hi;exact⟨i,XM,XN⟩;rintro⟨i,hi,rfl⟩;refine⟨l.getD i default,?_,rfl⟩;exact aqP.2 ⟨i,XN,XN⟩
theorem W5(h:atM a):(a.n==a.d)=((a.n==1)&&(a.d==1)):=by
 rw[arj,ap9,beq_iff_eq,beq_iff_eq,beq_iff_eq];constructor
 have h1:=h.gcd;have h2:=h.d1;have:a.d.natAbs=a.d.toNat:=XM
 grind
 omega
theorem adq (d:ai)(l:List Part):sS d l:=λV _=>eu _ _ _ λj s _ O E=>⟨λ_=>wB _,λ_=>⟨XN,eu _ _ _ λi s _ hi=>by exact⟨XM,XM⟩,λ_ _=>(Rr _ _).1⟩⟩
variable {d:ai}
theorem aap(hf:d.zs.length<=600)(l:List Part):tU d l=jA d l:=by
 unfold tU jA;have O:atM { n:=0,d:=1}:=⟨by decide,by decide,by decide,by decide,by decide⟩;have key:=I8 (f:=gw d l) (g:=nC d l) (λj s t=>t=(s.1,s.2.1)/\atM { n:=s.1,d:=s.2.1}/\∀ f:Int,aF .int .bool s.2.2 f=decide (f∈(l.take j).map λx=>x.gl)) l.length 0 (0,1,[]) (0,1) ⟨rfl,O,λf=>by rfl⟩ (λj s t _ hj ⟨j1,j2,j3⟩ =>by
  rw[aqu]at hj;subst j1;unfold gw nC;rw[aqa];have W:=BQ (l.getD j default).gl (k:=d.zs.length) XM;have hm:=j3 (l.getD j default).gl;have E:=Rr { n:=s.1,d:=s.2.1} (l.getD j default).share;have hd:=adp l j;rw[E.2];have X:=cj l default hj;have htf:=W4 l j XM (l.getD j default).gl;generalize hp:l.getD j default=p at *;by_cases hA:0<=p.gl/\p.gl< (d.zs.length:Int)
  ·have Y:=W.2 hA;have hA2:((decide (p.gl<0)) ||(decide (p.gl>=(d.zs.length:Int))))=false:=by
    grind
   rw[Y,hA2,hm];by_cases hC:p.share.n<=0
   grind
   ·rw[decide_eq_false hC];by_cases hV:atM p.share
    rw[(sa _).2 hV];by_cases hB:p.gl∈(l.take j).map λx=>x.gl
    grind
    rw[decide_eq_false hB];have hn:aj (kR l j) j 0 ()=.inr ():=hd.2 λi hi e=>hB (htf.2 ⟨i,hi,e⟩);rw[hn];cases he:((iB { n:=s.1,d:=s.2.1} p.share).2 !=0)with
    |true=>simp_all
    |false=>
     have he:(iB { n:=s.1,d:=s.2.1} p.share).2=0:=XN
     obtain⟨_,_,a3,_⟩:=Z6 (r:=(iB { n:=s.1,d:=s.2.1} p.share).1) (by rw[<-he]);refine .inr ⟨_,_,rfl,rfl,rfl,a3,λf=>?_⟩;rw[qm,X];grind
    ·have hV2:eG p.share=false:=by
      cases h:eG p.share with
      |true=>exact absurd ((sa _).1 h) hV|false=>rfl
     simp_all [TK,gK]
  grind)
 by_cases hl:1<=l.length/\l.length<=16
 have e1:((decide ((l.length:Int) <1)) ||(decide ((l.length:Int) > 16)))=false:=by
  grind
 have e2:aY (l.length:Int) 1 16=true:=(yl _ _ _).2 XM;rw[e1,e2];simp[cond_false];rcases key with⟨a,b,V,q2⟩ | ⟨s,t,V,q2,q3,q4,_⟩;rw[V,q2];rw[V,q2];subst q3;exact W5 q4
 ·have e2:aY (l.length:Int) 1 16=false:=by
   cases h:aY (l.length:Int) 1 16 with
   |true=>have:=(yl _ _ _).1 h;omega|false=>rfl
  grind
theorem Rt (b:List bo)(n:Int):(nD b n= -1/\∀ y∈b,¬ (y.no=n/\y.kind≠4))\/∃ K y R,b=K++y::R/\nD b n=(K.length:Int)/\y.no=n/\y.kind≠4:=by
 unfold nD;rcases zW (step:=vI b n) b default (λy=>(y.no==n)&&(y.kind !=4)) (λk _=>rfl)with⟨e,h⟩ | ⟨K,x,R,h1,e,h2,E⟩ <;>grind
theorem adr(hf:d.zs.length<=600)(hr:d.bl.length<=256){b:List bo}(hb:Asc b)(x:bo):tV d b x=dF d (xE b) x:=by
 unfold tV dF;have hh:od d x=((aY x.right 0 (i64.wrap ((d.bl.length:Int) - 1)))&&((d.bl.getD (Int.toNat x.right) (default:atN)).kind==1)&&(aY x.since 0 (i64.wrap ((d.zs.length:Int) - 1)))):=by
  unfold od;grind [BQ]
 have O:((decide (x.to>=0))&&(decide (x.to< (d.zs.length:Int))))=aY x.to 0 (i64.wrap ((d.zs.length:Int) - 1)):=by
  rw[arj,BQ _ XM,ap9,decide_eq_true_eq,decide_eq_true_eq]
 have E:(((((((decide (x.no<0)) ||(decide (x.no > 1048576))) ||(decide (x.at_<0))) ||(decide (x.at_ > 4096))) ||(decide (x.known<0))) ||(decide (x.known > 1048576))))=(((!(aY x.no 0 1048576)) ||(!(aY x.at_ 0 4096))) ||(!(aY x.known 0 1048576))):=by
  rw[arj];simp[aqG,decide_eq_true_eq,aqA,<-arN,yl];omega
 rw[E];cases hg:(((!(aY x.no 0 1048576)) ||(!(aY x.at_ 0 4096))) ||(!(aY x.known 0 1048576)))with
 |true=>simp
 |false=>
  unfold mn jC;simp[ar4];by_cases k1:x.kind=1
  grind
  rw[show(x.kind==1)=false by grind];by_cases k2:x.kind=2
  grind [aap]
  rw[show(x.kind==2)=false by grind];by_cases k3:x.kind=3
  grind
  rw[show(x.kind==3)=false by grind];by_cases V:x.kind=4
  rw[show(x.kind==4)=true by rw[V];rfl];cases hz:((((x.right==0)&&(x.since==0))&&(x.to==0))&&((x.parts.length:Int) ==0))with
  |false=>simp
  |true=>
   rw[Q8];rcases Rt b x.of_ with⟨e,W⟩ | ⟨K,y,R,e1,e2,e3,Y⟩;grind [ID]
   have X:b.getD (Int.toNat (K.length:Int)) default=y:=XN
   grind [ID]
  grind
theorem I9 (d:ai)(x:bo):qX d x:=λh=>by
 grind
theorem W6 (d:ai)(b:List bo)(x:bo):sT d b x:=λ_=>⟨λ_ _=>I9 _ _,λ_=>⟨λ_=>⟨λ_=>I9 _ _,λ_=>adq _ _⟩,λ_=>⟨λ_ _=>I9 _ _,λ_ _ h=>by
 rcases Rt b x.of_ with⟨e,_⟩ | ⟨K,y,R,E,O,_⟩ <;>grind⟩⟩⟩
theorem aaq (l:List bo):sf l=((decide ((l.length:Int) > 512)) ||aU l):=by
 unfold sf;cases decide ((l.length:Int) > 512)with
 |true=>rfl
 |false=>
  cases hr:aj (mr l) l.length 0 ()with
  |inr s=>
   have h:=gf.1 hr
   symm
   refine(sR l).2 λx E=>?_;obtain⟨j,O,rfl⟩:=aqP.1 E;grind [mr]
  |inl y=>
   cases hc:aU l with
   |true=>rfl
   |false=>
    have h:=(sR l).1 hc;have:aj (mr l) l.length 0 ()=.inr ():=gf.2 λj O=>by
     grind [mr]
    grind
theorem AG (d:ai)(l:List bo):oS d l:=⟨Ej d,λ_ _=>eu _ _ _ λj s _ E O=>⟨λh=>by
  grind [ar,aD],λ_=>⟨XM,XM,XM⟩,λ_=>W6 _ _ _⟩⟩
theorem Vr (d:ai)(l:List bo):ll d l=bj d l:=by
 unfold ll bj;rw[<-C0 d,aaq];cases h1:(aB d !=0)with
 |true=>rfl
 |false=>
  cases h2:((decide ((l.length:Int) > 512)) ||aU l)with
  |true=>rfl
  |false=>
   have hr:=kc (d:=d) h1;rw[aqt,decide_eq_false_iff_not]at h2;have key:=I8 (f:=nE d l) (g:=eW d l) (λj _ t=>t=xE (l.take j)/\Asc (l.take j)) l.length 0 () [] ⟨rfl,by exact List.Pairwise.nil⟩ (λj s t _ V ⟨X,E⟩ =>by
    rw[aqu]at V;subst X;unfold nE eW;rw[as0,adr hr.zs hr.bl E];cases hc:(((decide ((j:Int) > 0))&&(decide ((l.getD j (default:bo)).no<=(l.getD (Int.toNat (i64.wrap ((j:Int) - 1))) (default:bo)).no))) ||(!(dF d (xE (l.take j)) (l.getD j (default:bo)))))with
    |true=>simp_all
    |false=>
     refine .inr ⟨(),_,rfl,rfl,by grind [cj,AB],?_⟩;rw[cj l default V];refine aqr.2 ⟨E,aqI _ _,λy hy z O=>?_⟩;simp only[aq8]at O;subst O;rw[aqt,arB,decide_eq_false_iff_not,decide_eq_false_iff_not]at hc;obtain⟨i,hi,rfl⟩:=aqP.1 hy;rw[ara]at hi;have W:0<j:=XM
     rw[oc XM W,aqa]at hc;have Y:(l.take j)[i].no<=(l.getD (j - 1) default).no:=by
      rcases ari i (j - 1)with h5|h5;have:=aqM.1 E i (j - 1) XM XN h5;grind
      grind
     omega)
   grind
def ug (l:List Part)(n:Int)(g:Int->Int):Int->Int:=l.foldl (λg p=>kq g p.gl (g p.gl+loP p n)) g
def re (l:List Part)(g:Int->Int):Int->Int:=l.foldl (λg p=>kq g p.gl (g p.gl+1)) g
def Ev (l:List Part)(n:Int)(g:Int->Int):Int->Int:=re (l.take (n - eZ l n).toNat) (ug l n g)
def BT (x:bo)(g:Int->Int):Int->Int:=
 if g x.since=0 then g else
 if x.kind=1 then kq (kq g x.since 0) x.to (kq g x.since 0 x.to+g x.since)else
 if x.kind=2 then Ev x.parts (g x.since) (kq g x.since 0)else kq g x.since 0
theorem Ms (l:List Part)(p:Part)(n:Int)(g:Int->Int):ug (l++[p]) n g=kq (ug l n g) p.gl (ug l n g p.gl+loP p n):=by
 unfold ug;grind
theorem I_ (l:List Part)(p:Part)(g:Int->Int):re (l++[p]) g=kq (re l g) p.gl (re l g p.gl+1):=by
 unfold re;grind
theorem yq (l:List Part)(p:Part)(n:Int):eZ (l++[p]) n=eZ l n+loP p n:=by
 unfold eZ;simp
def au8 (F:Nat)(l:List Part):Prop:= ∀ p∈l,0<=p.gl/\p.gl< (F:Int)/\atM p.share/\0<p.share.n
theorem auw.fit(h:auw d l):au8 d.zs.length l:=λp E=>⟨(h.part p E).f0,(h.part p E).f1,(h.part p E).share,(h.part p E).pos⟩
theorem uY {F:Nat}{n:Int}(O:0<=n):∀ (l:List Part) (g:Int->Int) (M:Int),au8 F l->Good F M g->Good F (M+eZ l n) (ug l n g)/\tot F (ug l n g)=tot F g+eZ l n
 | [],g,M,_,E=>by grind [ug,eZ]
 |p::l,g,M,V,E=>by
  have⟨a,b,c,e⟩:=V p aqh;have hlo:=aal c e O;have W:=E.nn p.gl;have h1:Good F (M+loP p n) (kq g p.gl (g p.gl+loP p n)):=E.put a b XM (by have:=E.tot;omega);have⟨q1,q2⟩:=uY O l _ _ (λq Y=>V q (aqj _ Y)) h1;have X:eZ (p::l) n=loP p n+eZ l n:=by simp[eZ]
  rw[yp g p.gl _ F a b]at q2;rw[X];refine⟨by rw[show M+(loP p n+eZ l n)=M+loP p n+eZ l n by omega];exact q1,?_⟩;show tot F (ug l n (kq g p.gl (g p.gl+loP p n)))=_;omega
theorem yr {F:Nat}:∀ (l:List Part) (g:Int->Int) (M:Int),au8 F l->Good F M g->Good F (M+l.length) (re l g)/\tot F (re l g)=tot F g+l.length
 | [],g,M,_,E=>by grind [re]
 |p::l,g,M,O,E=>by
  have⟨a,b,c,e⟩:=O p aqh;have V:=E.nn p.gl;have h1:Good F (M+1) (kq g p.gl (g p.gl+1)):=E.put a b XM (by have:=E.tot;omega);have⟨q1,q2⟩:=yr l _ _ (λq W=>O q (aqj _ W)) h1;rw[yp g p.gl _ F a b]at q2;simp only[aqc];refine⟨by rw[show M+((l.length+1:Nat):Int)=M+1+(l.length:Int) by omega];exact q1,?_⟩;show tot F (re l (kq g p.gl (g p.gl+1)))=_;omega
theorem au8.take(h:au8 F l)(k:Nat):au8 F (l.take k):=λp E=>h p (aqT E)
theorem TU(h:auw d l)(E:0<=n)(O:Good d.zs.length M g):Good d.zs.length (M+n) (Ev l n g)/\tot d.zs.length (Ev l n g)=tot d.zs.length g+n:=by
 have⟨q1,q2⟩:=uY E l g M h.fit O;have⟨r1,r2⟩:=yr (l.take (n - eZ l n).toNat) _ _ (h.fit.take _) q1;have⟨l1,l2⟩:=OA h n;have e:((l.take (n - eZ l n).toNat).length:Int)=n - eZ l n:=XN
 rw[e]at r1 r2;refine⟨by rw[show M+n=M+eZ l n+(n - eZ l n) by omega];exact r1,?_⟩;show tot _ (re _ _)=_;omega
variable {x:bo}
theorem Ru(O:Fit d x)(Y:x.kind≠4)(W:Good d.zs.length L g):Good d.zs.length L (BT x g)/\(x.kind≠3->tot d.zs.length (BT x g)=tot d.zs.length g):=by
 have⟨_,_,_,s0,s1⟩:=O.held Y;unfold BT;by_cases hn:g x.since=0
 grind
 rw[if_neg hn];have X:=W.nn x.since;have hT:=W.tot;have E:Good d.zs.length (L - g x.since) (kq g x.since 0):=W.put s0 s1 (aqO _) XM;have t1:=yp g x.since 0 d.zs.length s0 s1;by_cases V:x.kind=1
 rw[if_pos V];have⟨a,b,c⟩:=O.pass V;have h1:=E.nn x.to;have t2:=yp (kq g x.since 0) x.to (kq g x.since 0 x.to+g x.since) d.zs.length a b;exact⟨E.put a b XM XM,λ_=>XM⟩;rw[if_neg V];by_cases k2:x.kind=2
 have⟨q1,q2⟩:=TU (O.split k2) X E;grind
 rw[if_neg k2];refine⟨⟨E.nn,E.sup,XM⟩,λk3=>?_⟩;rcases O.kind with e|e|e|e <;>omega
abbrev BM:=List (A1×Int)
abbrev RT (r f:Int):A1:= { right:=r,gl:=f}
def bk (m:BM):Int->Int->Int:=λr f=>aF .u0 .int m (RT r f)
theorem OB (m:BM)(r f v:Int):bk (cy .u0 .int m (RT r f) v)=λE=>if E=r then kq (bk m r) f v else bk m E:=by
 funext E f'
 unfold bk;rw[qm];by_cases h:E=r
 simp_all [kq];simp_all
theorem ahG (m:BM)(O:(ma m).Nodup)(r f:Int):bk (u6 .u0 .int m (RT r f))=λE=>if E=r then kq (bk m r) f 0 else bk m E:=by
 funext E f'
 unfold bk aF u6;have e:=(Eu (RT r f) m O).2.2 (RT E f');have e':i6 (DH m (RT r f)) (RT E f')=if RT E f'=RT r f then none else i6 m (RT E f'):=e;by_cases h:E=r
 subst h;rw[if_pos rfl];unfold kq;by_cases h2:f'=f
 subst h2;rw[e',if_pos rfl,if_pos rfl];rfl;grind
 simp_all
theorem Good.avc(h:Good F L g)(E:L<=2147483648)(f:Int):0<=g f/\g f<=2147483648:=by
 have h1:=h.nn f;by_cases e:g f=0
 omega;have⟨a,b⟩:=h.sup f e;have:=I6 h.nn F f a b;have:=h.tot;omega
variable {m:BM}
theorem W7(O:auw d x.parts)(X:0<=n)(h1:n<=1073741824)(hN:(ma m).Nodup)(hM:M+n<=2147483648)(hg:Good d.zs.length M (bk m x.right)):
  fJ x n m/\(ma (dG x n m)).Nodup/\bk (dG x n m)=λr=>if r=x.right then Ev x.parts n (bk m r)else bk m r:=by
 have⟨l1,l2⟩:=OA O n;have⟨⟨m1,lf⟩,e1,a1,a2,a3⟩:=i_ (step:=cg x n) (λk (s:BM×Int) =>(ma s.1).Nodup/\(bk s.1=λr=>if r=x.right then ug (x.parts.take k) n (bk m r)else bk m r)/\s.2=n - eZ (x.parts.take k) n) x.parts.length 0 (m,n) ⟨hN,by grind [ug],by simp[eZ]⟩ (λj s _ hj ⟨Y,j2,j3⟩ =>by
  rw[aqu]at hj;have hm:x.parts.getD j default∈x.parts:=XN
  have⟨f0,f1,f2,f3⟩:=O.fit _ hm;have elo:(eF (x.parts.getD j default).share n).1=loP (x.parts.getD j default) n:=(aak f2 X h1).1;have⟨q1,q2⟩:=uY X (x.parts.take j) _ _ (O.fit.take _) hg;have hs:∀ k,0<=eZ (x.parts.take k) n/\eZ (x.parts.take k) n<=eZ x.parts n:=λk=>by
   have key:∀ l:List Part,au8 d.zs.length l->0<=eZ l n:=λl=>by
    induction l with
    |nil=>grind [eZ]
    |cons p r ih=>
     intro W;have⟨_,_,c,e⟩:=W p aqh;have:=aal c e X;have:=ih λq hq=>W q (aqj _ hq);grind [eZ]
   have h1:=key _ (O.fit.take k);have h2:=key (x.parts.drop k) λp W=>O.fit p (as1 W);grind [List.take_append_drop,eZ]
  have hsj:=hs j;have V:=hs (j+1);rw[cj _ default hj,yq]at V;have hv:=q1.avc XM (x.parts.getD j default).gl;have E:aF .u0 .int s.1 (RT x.right (x.parts.getD j default).gl)=ug (x.parts.take j) n (bk m x.right) (x.parts.getD j default).gl:=by
   have:=congrFun (congrFun j2 x.right) (x.parts.getD j default).gl;grind [bk]
  refine⟨_,rfl,?_,?_,?_⟩;exact(xG _ _ _ Y).1;rw[E,ar XM XM,OB];funext r
  by_cases h:r=x.right
  grind [cj,Ms]
  grind
  grind [ar,cj,yq])
 rw[aqu,ary]at a2 a3;have hlf:0<=lf/\lf<=(x.parts.length:Int):=XM
 have⟨q1,q2⟩:=uY X x.parts _ _ O.fit hg;have tk:(x.parts.take lf.toNat).drop 0=x.parts.take lf.toNat:=by simp
 have⟨m2,e2,b1,b2⟩:=i_ (step:=lE x (m1,lf)) (λk (s:BM) =>(ma s).Nodup/\(bk s=λr=>if r=x.right then re ((x.parts.take lf.toNat).take k) (ug x.parts n (bk m r))else bk m r)) lf.toNat 0 m1 ⟨a1,by grind [re]⟩ (λj s _ hj ⟨Y,j2⟩ =>by
  have⟨r1,r2⟩:=yr ((x.parts.take lf.toNat).take j) _ _ ((O.fit.take _).take _) q1;have hlen:((x.parts.take lf.toNat).take j).length=j:=XN
  have hv:=r1.avc XM ((x.parts.take lf.toNat).getD j default).gl;have E:aF .u0 .int s (RT x.right ((x.parts.take lf.toNat).getD j default).gl)=re ((x.parts.take lf.toNat).take j) (ug x.parts n (bk m x.right)) ((x.parts.take lf.toNat).getD j default).gl:=by
   have:=congrFun (congrFun j2 x.right) ((x.parts.take lf.toNat).getD j default).gl;grind [bk]
  refine⟨_,rfl,?_,?_⟩;exact(xG _ _ _ Y).1;simp only[tk];rw[E,ar XM XM,OB];funext r
  by_cases h:r=x.right
  grind [cj,I_]
  grind)
 have eR:dG x n m=m2:=by
  grind [dG]
 refine⟨λ_ z hz=>?_,?_,?_⟩;grind
 grind
 simp_all [Ev,List.take_take]
def oW (x:bo)(B:Int->Int->Int):Int->Int->Int:=λr=>if r=x.right then BT x (B r)else B r
def rL (a:List bo)(B:Int->Int->Int):Int->Int->Int:=a.foldl (λB x=>oW x B) B
def ads:List bo->(Int->Int->Int)->List Int
 | [],_=>[]|x::r,B=>(if B x.right x.since=0 then [x.no]else [])++ads r (oW x B)
structure auG (d:ai)(m:BM):Prop where
 nodup:(ma m).Nodup
 good:∀ r,∃ L,L<=1073741824/\Good d.zs.length L (bk m r)
theorem auG.le(h:auG d m)(r f:Int):0<=bk m r f/\bk m r f<=1073741824:=by
 have⟨L,h1,h2⟩:=h.good r;have:=h2.nn f;by_cases e:bk m r f=0
 omega;have⟨a,b⟩:=h2.sup f e;have:=I6 h2.nn _ f a b;have:=h2.tot;omega
theorem adt{ds:List bo}(hx:Fit d x)(hk:x.kind≠4){e:List Int}(W:auG d m)(he:(e.length+1)*8<=dh):
  fh ds x (e,m)/\∃ O,df ds x (e,m)=.inr (e++(if bk m x.right x.since=0 then [x.no]else []),O)/\auG d O/\bk O=oW x (bk m):=by
 have⟨r0,r1,r2,s0,s1⟩:=hx.held hk;have hv:=W.le x.right x.since;have ebk:aF .u0 .int m (RT x.right x.since)=bk m x.right x.since:=rfl;have hdel:=Eu (RT x.right x.since) m W.nodup;have hstep:∀ O:BM,(ma O).Nodup->bk O=oW x (bk m)->auG d O:=λO hN X=>by
  refine⟨hN,λr=>?_⟩;have⟨L,h1,h2⟩:=W.good r;refine⟨L,h1,?_⟩;rw[X];show Good _ _ (if r=x.right then BT x (bk m r)else bk m r);split
  exact(Ru hx hk h2).1;exact h2
 have hlen:(e++[x.no]).length=e.length+1:=by simp
 unfold fh df;simp only[ebk,hlen];by_cases hn:bk m x.right x.since=0
 have b0:(bk m x.right x.since==0)=true:=by simp[hn]
 rw[b0,if_pos hn];refine⟨⟨λ_=>he,(λh=>by cases h)⟩,m,rfl,W,?_⟩;funext r
 simp_all [oW,BT];have b0:(bk m x.right x.since==0)=false:=XN
 rw[b0,if_neg hn,aqo];have Y:=ahG m W.nodup x.right x.since;have V:(ma (u6 .u0 .int m (RT x.right x.since))).Nodup:=hdel.1;have E:Good d.zs.length (1073741824 - bk m x.right x.since) (bk (u6 .u0 .int m (RT x.right x.since)) x.right):=by
  have⟨L,h1,h2⟩:=W.good x.right;rw[Y];simp[if_true];exact h2.put s0 s1 (aqO _) (by have:=h2.tot;omega)
 by_cases k1:x.kind=1
 have b1:(x.kind==1)=true:=by simp[k1]
 rw[b1];have hto:=E.avc XM x.to;have e2:aF .u0 .int (u6 .u0 .int m (RT x.right x.since)) (RT x.right x.to)=kq (bk m x.right) x.since 0 x.to:=by
  grind [bk]
 have hto':0<=kq (bk m x.right) x.since 0 x.to/\kq (bk m x.right) x.since 0 x.to<=2147483648:=by
  grind
 refine⟨⟨(λh=>by cases h),(λ_ h=>by cases h)⟩,_,rfl,?_⟩;have X:bk (f7 x (bk m x.right x.since) (u6 .u0 .int m (RT x.right x.since)))=oW x (bk m):=by
  unfold f7;rw[e2,ar XM XM,OB];funext r
  simp_all [oW,BT]
 exact⟨hstep _ (by exact(xG _ _ _ V).1) X,X⟩;by_cases k2:x.kind=2
 have⟨p1,p2,p3⟩:=W7 (hx.split k2) hv.1 hv.2 V (M:=1073741824 - bk m x.right x.since) XM E;have X:bk (dG x (bk m x.right x.since) (u6 .u0 .int m (RT x.right x.since)))=oW x (bk m):=by
  funext r
  simp_all [oW,BT]
 grind
 have k3:x.kind=3:=by rcases hx.kind with h|h|h|h <;>omega
 have X:bk (u6 .u0 .int m (RT x.right x.since))=oW x (bk m):=by
  funext r
  simp_all [oW,BT]
 grind
theorem Mt {d:ai}(ds:List bo):∀ (l:List bo),(∀ x∈l,Fit d x/\x.kind≠4)->∀ (e:List Int) (m:BM),auG d m->(e.length+l.length)*8<=dh->
  okL (df ds) (fh ds) l (e,m)/\∃ E,cS (df ds) l (e,m)=.inr (e++ads l (bk m),E)/\auG d E/\bk E=rL l (bk m)
 | [],_,e,m,O,_=>⟨trivial,m,by simp[cS,ads],O,rfl⟩
 |x::l,h,e,m,O,W=>by
  simp[aqc]at W;have⟨h1,h2⟩:=h x aqh;have⟨q1,m1,q2,q3,q4⟩:=adt (ds:=ds) h1 h2 (e:=e) O XM;have V:(e++(if bk m x.right x.since=0 then [x.no]else [])).length<=e.length+1:=XN
  have⟨r1,m2,r2,r3,r4⟩:=Mt ds l (λy hy=>h y (aqj _ hy)) (e++(if bk m x.right x.since=0 then [x.no]else [])) m1 q3 XM;refine⟨⟨q1,λs X=>XN⟩,m2,?_,r3,?_⟩;simp[cS,q2];rw[r2,q4,aqY];rfl;rw[r4,q4];rfl
def B0 (d:ai):Int->Int->Int:=λr f=>if 0<=r/\r< (d.bl.length:Int)/\(d.bl.getD r.toNat default).kind=1/\(d.bl.getD r.toNat default).gl=f then(d.bl.getD r.toNat default).bn else 0
structure avA (d:ai)(x:atN):Prop where
 f0:0<=x.gl
 f1:x.gl< (d.zs.length:Int)
 l0:1<=x.bn
 l1:x.bn<=1073741824
theorem GP(h:aB d=0){k:Nat}(W:k<d.bl.length)(V:(d.bl.getD k default).kind=1):avA d (d.bl.getD k default):=by
 have:=((ql d).1 h).2.2.2.2.2.2.2.1 k W;unfold eB at this;rw[iY]at this;have h2:i9 d (d.bl.getD k default)=true:=by
  grind
 unfold i9 at h2;cases E:((!(cK (d.bl.getD k default).gl (d.zs.length:Int))) ||(!(cK (d.bl.getD k default).reach (d.reaches.length:Int)))) ||(!(aS ([0,(d.bl.getD k default).since,(d.bl.getD k default).to,(i64.wrap (d.hours - 1))])))with
 |true=>grind
 |false=>
  rw[E,show((d.bl.getD k default).kind==1)=true by rw[V];rfl]at h2;simp only[cond_true,cond_false,ap9]at h2;simp only[aqt,aq9]at E;have O:=E.1.1;unfold cK at O;simp only[ap9,decide_eq_true_eq]at O;have X:=yk h2.1.2;exact⟨XM,XM,XM,XM⟩
theorem ahH(h:aB d=0)(r:Int):∃ L,L<=1073741824/\Good d.zs.length L (B0 d r):=by
 by_cases hr:0<=r/\r< (d.bl.length:Int)/\(d.bl.getD r.toNat default).kind=1
 ·have E:=GP h (k:=r.toNat) XM hr.2.2;have W:=E.l0;refine⟨(d.bl.getD r.toNat default).bn,E.l1,?_⟩;have e:B0 d r=kq (λ_=>0) (d.bl.getD r.toNat default).gl (d.bl.getD r.toNat default).bn:=by
   unfold B0 kq;grind
  have t0:∀ n,tot n (λ_=>0)=0:=λn=>by
   induction n with
   |zero=>rfl|succ n V=>grind [tot]
  rw[e];exact Good.put (L:=0) ⟨λ_=>aqO _,λf O=>absurd rfl O,XN⟩ E.f0 E.f1 XM XN
 ·refine⟨0,XM,?_⟩;have e:B0 d r=λ_=>0:=by
   funext f
   unfold B0;omega
  have t0:∀ n,tot n (λ_=>0)=0:=λn=>by
   induction n with
   |zero=>rfl|succ n V=>grind [tot]
  rw[e];exact⟨λ_=>aqO _,λf O=>absurd rfl O,XN⟩
theorem aar(h:aB d=0):∃ m,aj (dc d) d.bl.length 0 []=.inr m/\auG d m/\bk m=B0 d:=by
 have⟨m,h1,h2,h3⟩:=i_ (step:=dc d) (λk (m:BM) =>(ma m).Nodup/\bk m=λr f=>if r< (k:Int)then B0 d r f else 0) d.bl.length 0 ([]:BM) ⟨by simp[ma],by
   funext r f
   by_cases hr:r< ((0:Nat):Int)
   rw[if_pos hr];unfold B0 bk;rw[if_neg XM];rfl;rw[if_neg hr];rfl⟩ (λj m _ W ⟨E,O⟩ =>by
  unfold dc;by_cases V:(d.bl.getD j default).kind=1
  rw[show((d.bl.getD j default).kind==1)=true by rw[V];rfl];refine⟨_,rfl,(xG _ _ _ E).1,?_⟩;rw[OB,O];funext r f
  by_cases hr:r=(j:Int)
  subst hr;unfold kq B0;grind
  simp[if_neg hr];omega;rw[show((d.bl.getD j default).kind==1)=false by grind];refine⟨_,rfl,E,?_⟩;rw[O];funext r f
  by_cases hr:r=(j:Int)
  simp_all [B0];omega)
 have e:bk m=B0 d:=by
  rw[h3];funext r f
  split
  rfl;unfold B0;omega
 refine⟨m,h1,⟨h2,λr=>?_⟩,e⟩;rw[e];exact ahH h r
theorem W8(h:aB d=0){ds:List bo}(hd:∀ x∈ds,Fit d x/\x.kind≠4)(O:ds.length<=512):
  mH d ds/\∃ m,fo d ds=(m,yc (ads ds (B0 d)))/\auG d m/\bk m=rL ds (B0 d):=by
 have⟨m0,e0,o0,b0⟩:=aar h;have⟨q1,m1,q2,q3,q4⟩:=Mt (d:=d) ds ds hd [] m0 o0 (by grind [dh]);rw[b0]at q2 q4;refine⟨λ_ z E=>?_,m1,?_,q3,q4⟩;refine⟨aaf ds,?_⟩;grind [AE]
 grind [fo,AE]
def ln (d:ai)(l:List bo)(a b:Int):Int->Int->Int:=rL (stS (Em l a b)) (B0 d)
def z5 (d:ai)(B:Int->Int->Int)(r f:Nat):Option atr:=if 0<B r f then some { right:=(r:Int),gl:=(f:Int),bn:=B r f,att:=(d.bl.getD r default).att}else none
def kW (d:ai)(B:Int->Int->Int)(r:Nat):List atr:=(List.range d.zs.length).filterMap (z5 d B r)
def tX (d:ai)(B:Int->Int->Int):List atr:=(List.range d.bl.length).flatMap (kW d B)
variable {B:Int->Int->Int}{x:atr}
theorem rf{r:Nat}:x∈kW d B r↔∃ f:Nat,f<d.zs.length/\0<B r f/\x= { right:=(r:Int),gl:=(f:Int),bn:=B r f,att:=(d.bl.getD r default).att}:=by
 unfold kW z5;grind
theorem AH:x∈tX d B↔0<=x.right/\x.right< (d.bl.length:Int)/\0<=x.gl/\x.gl< (d.zs.length:Int)/\0<x.bn/\x.bn=B x.right x.gl/\x.att=(d.bl.getD x.right.toNat default).att:=by
 unfold tX;rw[arL];constructor
 rintro⟨r,hr,E⟩;obtain⟨f,V,O,rfl⟩:=rf.1 E;grind
 rintro⟨a,b,c,e,O,h1,h2⟩;refine⟨x.right.toNat,arW.2 XM,rf.2 ⟨x.gl.toNat,XM,?_,?_⟩⟩;grind
 rw[ard a,ard c,<-h1,<-h2]
def Rv:∀ n:Nat,(List.range n).Pairwise (· < ·):=λn=>List.pairwise_lt_range
theorem yu (d:ai)(B:Int->Int->Int):(tX d B).Pairwise hlt:=by
 unfold tX;rw[asV];refine⟨λr _=>?_,?_⟩;unfold kW;rw[asb];refine(Rv _).imp λ{a b} O x E y hy=>?_;unfold z5 at E hy;split at E
 split at hy
 cases E;cases hy;exact Or.inr ⟨rfl,Or.inl XN⟩;cases hy;cases E;refine(Rv _).imp λ{a b} O x E y hy=>?_;obtain⟨f,_,_,rfl⟩:=rf.1 E;obtain⟨g,_,_,rfl⟩:=rf.1 hy;simp[hlt,qw];omega
theorem adu (x:atr):¬hlt x x:=by simp only[hlt,qw,and_false,or_false];omega
theorem W9 {l:List atr}(h:l.Pairwise hlt):l.Nodup:=h.imp λ{a b} E e=>by subst e;exact adu _ E
theorem xH {α β:Type}(f:α->List β)(k:Nat):∀ l:List α,(∀ a∈l,(f a).length<=k)->(l.flatMap f).length<=l.length*k
 | [],_=>by simp
 |a::l,h=>by
  have h1:=h a aqh;have h2:=xH f k l λb E=>h b (aqj _ E);rw[aqx,aqk,aqc,asB];omega
theorem Mu(hr:atq d)(B:Int->Int->Int):(tX d B).length<=153600:=by
 have h1:=xH (kW d B) 600 (List.range d.bl.length) λr _=>aqp (arH _ _) (by rw[arG];exact hr.zs);rw[arG]at h1;have:=hr.bl;show((List.range d.bl.length).flatMap (kW d B)).length<=_;omega
def vO (d:ai)(k:A1×Int):Option atr:=if 0<k.2 then some { right:=k.1.right,gl:=k.1.gl,bn:=k.2,att:=(d.bl.getD (Int.toNat k.1.right) default).att}else none
theorem OC (d:ai)(l:List bo)(h n:Int):∀ (L:BM) (s:List atr),cS (fO d l h n) L s=.inr (s++L.filterMap (vO d))
 | [],s=>by simp[cS]
 |k::L,s=>by
  by_cases E:0<k.2
  have e:vO d k=some { right:=k.1.right,gl:=k.1.gl,bn:=k.2,att:=(d.bl.getD (Int.toNat k.1.right) (default:atN)).att}:=by unfold vO;grind
  simp[cS];unfold fO;have:=OC d l h n L (s++[{ right:=k.1.right,gl:=k.1.gl,bn:=k.2,att:=(d.bl.getD (Int.toNat k.1.right) (default:atN)).att}]);unfold fO at this;grind
  have e:vO d k=none:=by unfold vO;grind
  rw[asE e];simp[cS];unfold fO;rw[decide_eq_false (show ¬k.2 > 0 from E)];have:=OC d l h n L s;exact this
theorem TV (d:ai)(l:List bo)(h n:Int):∀ (L:BM) (s:List atr),(∀ k∈L,0<k.2->0<=k.1.right/\k.1.right< (d.bl.length:Int))->(s.length+(L.filterMap (vO d)).length)*32<=dh->okL (fO d l h n) (oe d l h n) L s
 | [],_,_,_=>trivial
 |k::L,s,V,X=>by
  by_cases O:0<k.2
  have e:vO d k=some { right:=k.1.right,gl:=k.1.gl,bn:=k.2,att:=(d.bl.getD (Int.toNat k.1.right) (default:atN)).att}:=by unfold vO;grind
  refine⟨λ_=>⟨V k aqh O,XN⟩,λs' E=>?_⟩;unfold fO at E;exact TV d l h n L _ (λq W=>V q (aqj _ W)) XN;have e:vO d k=none:=by unfold vO;grind
  rw[asE e]at X;refine⟨λh=>absurd (of_decide_eq_true h) O,λs' E=>?_⟩;unfold fO at E;rw[decide_eq_false (show ¬k.2 > 0 from O)]at E;cases E;exact TV d l h n L _ (λq W=>V q (aqj _ W)) X
theorem Vs {d:ai}{r:Int}(hr:¬ (0<=r/\r< (d.bl.length:Int))):∀ (ds:List bo) (B:Int->Int->Int),(∀ x∈ds,Fit d x/\x.kind≠4)->rL ds B r=B r
 | [],B,_=>rfl
 |x::ds,B,h=>by
  have h1:=h x aqh;have h2:=h1.1.held h1.2;show rL ds (oW x B) r=_;rw[Vs hr ds _ λy hy=>h y (aqj _ hy)];unfold oW;grind
variable {l:List bo}
theorem C_(h:avj d l)(hour known:Int):∀ x∈stS (Em l hour known),Fit d x/\x.kind≠4:=λx E=>by
 have E:=adj.1 E;unfold Em at E;rw[arQ]at E;refine⟨h.fit x E.1,λe=>?_⟩;grind
def Vt (l:List bo):(stS l).length=l.length:=(xF (zV l)).symm
def adv {α:Type}{a b:List α}(E:a.Nodup)(O:b.Nodup)(h:∀ x,x∈a↔x∈b):a.Perm b:=(arZ E O).2 h
theorem W_(h:avj d l)(X:auG d m){hour known:Int}(hb:bk m=ln d l hour known):
  (m.filterMap (vO d)).Perm (tX d (ln d l hour known))/\∀ k∈m,0<k.2->0<=k.1.right/\k.1.right< (d.bl.length:Int):=by
 have E:∀ (t:A1) (v:Int),(t,v)∈m->bk m t.right t.gl=v:=λt v htv=>by
  have:=(I5 X.nodup).2 htv;show(i6 m { right:=t.right,gl:=t.gl}).getD _=v;grind
 have O:∀ k∈m,0<k.2->0<=k.1.right/\k.1.right< (d.bl.length:Int):=λk Y W=>by
  rcases asR (0<=k.1.right/\k.1.right< (d.bl.length:Int))with hr|hr;exact hr;have e:=E k.1 k.2 Y;rw[hb]at e;unfold ln at e;rw[Vs hr _ _ (C_ h hour known)]at e;unfold B0 at e;omega
 refine⟨adv ?_ (W9 (yu _ _)) λx=>?_,O⟩;rw[List.Nodup,asb];have:m.Pairwise λa b=>a.1≠b.1:=by
  have:=X.nodup;grind [ma]
 refine this.imp λ{a b} hab x V y hy=>?_;unfold vO at V hy;split at V
 split at hy
 cases hy;intro e;have⟨⟨a1,a2⟩,a3⟩:=a;simp_all;cases hy;cases V;rw[atc,AH];constructor
 rintro⟨k,Y,V⟩;unfold vO at V;split at V
 rename_i W;cases V;have e:=E k.1 k.2 Y;have⟨a,b⟩:=O k Y W;have⟨L,_,hg⟩:=X.good k.1.right;have⟨c,f⟩:=hg.sup k.1.gl XM;simp_all;cases V;rintro⟨a,b,c,f,W,h1,h2⟩;rw[<-hb]at h1;have h3:i6 m (RT x.right x.gl)=some x.bn:=by
  have e:bk m x.right x.gl=(i6 m (RT x.right x.gl)).getD 0:=rfl;cases hg:i6 m (RT x.right x.gl) <;>grind
 refine⟨(RT x.right x.gl,x.bn),(I5 X.nodup).1 h3,?_⟩;unfold vO;rw[if_pos W];rw[<-h2]
open Go.Shelf Go.Sort in
variable {d:ai}{B:Int->Int->Int}
theorem Mv{s:List atr}(h:s.Perm (tX d B)):apart da s/\srt da s=tX d B:=by
 have e1:∀ x y,ltOf da x y=true↔hlt x y:=λx y=>by unfold ltOf;rw[decide_eq_true_eq,Iv]
 have E:∀ x y,ltOf da x y=false↔¬hlt x y:=λx y=>XN
 have W:∀ x∈tX d B,∀ y∈tX d B,¬hlt x y->¬hlt y x->x=y:=λx V y hy h1 h2=>by
  have⟨_,_,_,_,_,x1,x2⟩:=AH.1 V;have⟨_,_,_,_,_,y1,y2⟩:=AH.1 hy;simp[hlt,qw]at h1 h2;have⟨a,b,c,e⟩:=x;have⟨a',b',c',e'⟩:=y;grind
 refine⟨λx V y hy h1 h2=>W x (h.subset V) y (h.subset hy) ((E x y).1 h1) ((E y x).1 h2),?_⟩;unfold srt;have Y:(s.mergeSort λx y=>!(ltOf da y x)).Perm (tX d B):=(arc _ _).trans h;refine aq0 (le:=λx y=>(!ltOf da y x)=true) ?_ ?_ ?_ Y;grind
 refine aq2 ?_ ?_ s;intro a b c h1 h2;simp[aqA]at h1 h2 |-;exact Fk.3 c b a h2 h1;intro a b;simp[aqG,aqA];rcases asR (hlt b a)with hh|hh;refine .inr ((E _ _).2 λX=>?_);simp[hlt,qw,and_false,or_false]at hh X;omega;grind
 refine(yu d B).imp λ{a b} O=>?_;simp[aqA];refine(E _ _).2 λX=>?_;simp[hlt,qw,and_false,or_false]at O X;omega
theorem Mw (d:ai)(l:List bo)(hour known:Int):s4 d l hour known/\
  aJ d l hour known=if bj d l≠0 then([],bj d l)else if 0<=hour/\hour<d.hours/\0<=known/\known<=1048576 then(tX d (ln d l hour known),0)else([],1):=by
 by_cases hc:bj d l=0
 have E:=vH hc;have hE:=((AC d l).1 hc).1;have hh:=E.right.hours;have hh1:=E.right.aua;have hw:((!(aY hour 0 (i64.wrap (d.hours - 1)))) ||(!(aY known 0 1048576)))= !decide (0<=hour/\hour<d.hours/\0<=known/\known<=1048576):=by
  rw[ar XM XM,<-Bool.not_and];congr 1
  rw[arj,ap9,yl,yl,decide_eq_true_eq];omega
 have⟨c1,c2⟩:=Q9 l hour known E.len;have O:(stS (Em l hour known)).length<=512:=by rw[Vt];exact aqp (arg _ _) E.len
 have⟨f1,m,f2,f3,f4⟩:=W8 hE (C_ E hour known) O;have⟨p1,p2⟩:=W_ E f3 (hour:=hour) (known:=known) f4;have key:∀ L:BM,L.Perm m->(L.filterMap (vO d)).Perm (tX d (ln d l hour known)):=λL W=>(W.filterMap _).trans p1;have val:aJ d l hour known=if 0<=hour/\hour<d.hours/\0<=known/\known<=1048576 then(tX d (ln d l hour known),0)else([],1):=by
  unfold aJ;rw[hc,hw,c2,f2];by_cases X:0<=hour/\hour<d.hours/\0<=known/\known<=1048576
  rw[decide_eq_true X,if_pos X];rw[OC];simp;rw[(Mv (key m (List.Perm.refl _))).2];grind
 refine⟨⟨xD d l,(λh=>XN),λ_=>⟨λh=>?_,λh=>?_⟩⟩,XN⟩;grind
 rw[c2,f2];refine⟨c1,f1,λL W=>?_⟩;have V:=key L W;refine⟨TV d l hour known L [] (λk V=>p2 k (W.subset V)) ?_,λs Y=>?_⟩;have h1:=V.length_eq;have h2:=Mu E.right (ln d l hour known);grind [dh]
 rw[OC]at Y;have⟨s1,s2⟩:=Mv V;grind
 have val:aJ d l hour known=([],bj d l):=by grind [aJ]
 refine⟨⟨xD d l,(λ_=>val.symm),λh=>?_⟩,XN⟩;grind
variable {l:List bo}
theorem Ja{known n:Int}:sb l known n=true↔∃ u∈l,u.kind=4/\u.known<=known/\u.of_=n:=by
 simp_all [sb,and_assoc]
def lv (l:List bo)(b a:Int)(x:bo):Bool:= !((((x.kind==4) ||(decide (x.known > a))) ||(decide (x.at_ > b))) ||sb l a x.no)
def adw (r:Int):List atr->Int
 | [] =>0|x::l=>(if x.right=r then x.bn else 0)+adw r l
theorem OD {d:ai}{r L:Int}:∀ (ds:List bo) (B:Int->Int->Int),(∀ x∈ds,Fit d x/\x.kind≠4)->Good d.zs.length L (B r)->Good d.zs.length L (rL ds B r)/\((∀ x∈ds,x.right=r->x.kind≠3)->tot d.zs.length (rL ds B r)=tot d.zs.length (B r))
 | [],B,_,E=>⟨E,λ_=>rfl⟩
 |x::ds,B,h,E=>by
  have O:=h x aqh;have h1:Good d.zs.length L (oW x B r)/\((x.right=r->x.kind≠3)->tot d.zs.length (oW x B r)=tot d.zs.length (B r)):=by
   unfold oW;by_cases e:r=x.right
   have⟨q1,q2⟩:=Ru O.1 O.2 E;grind
   grind
  have⟨q1,q2⟩:=OD ds (oW x B) (λy hy=>h y (aqj _ hy)) h1.1;exact⟨q1,λV=>(q2 λy hy=>V y (aqj _ hy)).trans (h1.2 (V x aqh))⟩
theorem Rw {d:ai}{r:Int}(hr:¬ (0<=r/\r< (d.bl.length:Int)/\(d.bl.getD r.toNat default).kind=1)):∀ (ds:List bo) (B:Int->Int->Int),(∀ x∈ds,Fit d x/\x.kind≠4)->rL ds B r=B r
 | [],B,_=>rfl
 |x::ds,B,h=>by
  have h1:=h x aqh;have h2:=h1.1.held h1.2;show rL ds (oW x B) r=_;rw[Rw hr ds _ λy hy=>h y (aqj _ hy)];unfold oW;grind
theorem t0:∀ n,tot n (λ_=>0)=0:=λn=>by
 induction n with
 |zero=>rfl|succ n E=>grind [tot]
theorem Vu(h:aB d=0){k:Nat}(W:k<d.bl.length)(V:(d.bl.getD k default).kind=1):Good d.zs.length (d.bl.getD k default).bn (B0 d k)/\tot d.zs.length (B0 d k)=(d.bl.getD k default).bn:=by
 have E:=GP h W V;have X:=E.l0;have e:B0 d k=kq (λ_=>0) (d.bl.getD k default).gl (d.bl.getD k default).bn:=by
  unfold B0 kq;grind
 rw[e];refine⟨Good.put (L:=0) ⟨λ_=>aqO _,λf O=>absurd rfl O,by grind [t0]⟩ E.f0 E.f1 XM (by rw[t0];omega),?_⟩;rw[yp _ _ _ _ E.f0 E.f1,t0];omega
theorem adx{r:Int}(hr:¬ (0<=r/\r< (d.bl.length:Int)/\(d.bl.getD r.toNat default).kind=1)):B0 d r=λ_=>0:=by
 funext f
 unfold B0;omega
structure avB (d:ai)(B:Int->Int->Int):Prop where
 nn:∀ r f,0<=B r f
 take:∀ k,k<d.bl.length->(d.bl.getD k default).kind=1->Good d.zs.length (d.bl.getD k default).bn (B k)
 other:∀ r:Int,¬ (0<=r/\r< (d.bl.length:Int)/\(d.bl.getD r.toNat default).kind=1)->B r=λ_=>0
theorem Rx(h:aB d=0){ds:List bo}(hd:∀ x∈ds,Fit d x/\x.kind≠4):avB d (rL ds (B0 d)):=by
 have O:∀ k,k<d.bl.length->(d.bl.getD k default).kind=1->Good d.zs.length (d.bl.getD k default).bn (rL ds (B0 d) k):=λk V E=>(OD ds _ hd (Vu h V E).1).1;have W:∀ r:Int,¬ (0<=r/\r< (d.bl.length:Int)/\(d.bl.getD r.toNat default).kind=1)->rL ds (B0 d) r=λ_=>0:=λr hr=>(Rw hr ds _ hd).trans (adx hr);refine⟨λr f=>?_,O,W⟩;by_cases hr:0<=r/\r< (d.bl.length:Int)/\(d.bl.getD r.toNat default).kind=1
 have:=(O r.toNat XM hr.2.2).nn f;grind
 grind
theorem avB.le(h:avB d B)(V:aB d=0)(r f:Int):B r f<=1073741824:=by
 by_cases hr:0<=r/\r< (d.bl.length:Int)/\(d.bl.getD r.toNat default).kind=1
 have O:=h.take r.toNat XM hr.2.2;have E:=GP V (k:=r.toNat) XM hr.2.2;have:=O.le (by have:=E.l0;omega) f;rw[ard hr.1]at this;have:=E.l1;omega;rw[h.other r hr];simp
theorem Ry {α:Type}{step:Nat->List α->Empty⊕List α}(l:List α)(d:α)(P:α->Bool)(s0:List α)(h:∀ k s,k<l.length->step k s=bif P (l.getD k d)then .inr (s++[l.getD k d])else .inr s):aj step l.length 0 s0=.inr (s0++l.filter P):=by
 have⟨r,h1,h2⟩:=i_ (step:=step) (λk s=>s=s0++(l.take k).filter P) l.length 0 s0 (by simp) (λj s _ O E=>by
  grind [cj])
 grind
theorem Rz {α:Type}{step:Nat->List α->Empty⊕List α}{p:Nat->List α->Prop}(l:List α)(d:α)(P:α->Bool)(s0:List α)(h:∀ k s,k<l.length->step k s=bif P (l.getD k d)then .inr (s++[l.getD k d])else .inr s)(O:∀ k s,k<l.length->s.length<=s0.length+k->p k s):okI step p l.length 0 s0:=by
 refine gq (λk s=>s.length<=s0.length+k) _ _ _ (aqb _) λj s _ V E=>⟨O j s XM E,λs' e=>?_⟩;grind
theorem ahI (l:List bo)(x:bo)(known:Int):sh l x known=sb l known x.no:=by
 unfold sh;cases hr:aj (mu l x known) l.length 0 ()with
 |inr s=>
  have h:=gf.1 hr
  symm
  rw[<-arN,Ja];rintro⟨u,O,a,b,c⟩;obtain⟨j,E,rfl⟩:=aqP.1 O;grind [mu]
 |inl y=>
  cases hc:sb l known x.no with
  |true=>rfl
  |false=>
   have:aj (mu l x known) l.length 0 ()=.inr ():=gf.2 λj E=>by
    unfold mu;have h2:¬ ((l.getD j default).kind=4/\(l.getD j default).of_=x.no/\(l.getD j default).known<=known):=λ⟨a,b,c⟩ =>by
     have:sb l known x.no=true:=Ja.2 ⟨l.getD j default,XN,a,c,b⟩;grind
    grind
   grind
def qv (l:List bo)(a:Int)(x:bo):Bool:=(x.kind !=4)&&(decide (x.known<=a))&& !sb l a x.no
theorem amv (l:List bo)(hour known:Int)(x:bo):lv l hour known x=(qv l known x&&decide (x.at_<=hour)):=by
 grind [lv,qv]
theorem TW(V:avj d l)(hour known:Int):kS l hour known/\dA l hour known=stS (Em l hour known):=by
 have hl:=V.len;have stp:∀ (s:List bo×Int) k (t:List bo),k<l.length->iG l known s k t=bif((l.getD k default).at_==s.2)&&qv l known (l.getD k default)then .inr (t++[l.getD k default])else .inr t:=λs k t hk=>by
  grind [iG,qv,ahI]
 obtain⟨k1,r,k2,Y,k4⟩:okI (gA l hour known) (iZ l hour known) (Int.toNat hour+2) 0 ([],0)/\∃ r,aj (gA l hour known) (Int.toNat hour+2) 0 ([],0)=.inl r/\ato (Em l hour known) r/\Srt r:=by
  refine A3 (λs:List bo×Int=>((Int.toNat hour+1:Nat):Int).toNat - s.2.toNat) (λs:List bo×Int=>∃ k:Nat,s.2=(k:Int)/\k<=4097/\(k=0\/(k:Int)<=hour+1)/\Srt s.1/\(∀ x∈s.1,x.at_< (k:Int))/\ato (l.filter λx=>qv l known x&&decide (x.at_< (k:Int))) s.1/\s.1.length<=512) _ ?_ _ _ _ ⟨0,rfl,XM,.inl rfl,List.Pairwise.nil,by simp,?_,by simp⟩ XM;rintro j ⟨o,a⟩ ⟨k,rfl,h1,h1b,h2,h3,h4,h5⟩;unfold iZ gA;by_cases hc:(k:Int)<=4096/\(k:Int)<=hour
  have e:((decide ((k:Int)<=4096))&&(decide ((k:Int)<=hour)))=true:=XN
  simp only[e];have er:=Ry (step:=iG l known (o,(k:Int))) l default (λx=>(x.at_==(k:Int))&&qv l known x) o (stp _);rw[er];have E:ato (l.filter λx=>qv l known x&&decide (x.at_< ((k+1:Nat):Int))) (o++l.filter λx=>(x.at_==(k:Int))&&qv l known x):=λt=>by
   rw[asw,<-h4 t,ar_,ar_,ar_];by_cases ht:t< (k:Int)
   have X:l.filter (λa=>(a.at_==t)&&((a.at_==(k:Int))&&qv l known a))=[]:=by
    grind [List.filter_eq_nil_iff]
   grind
   have X:l.filter (λa=>(a.at_==t)&&(qv l known a&&decide (a.at_< (k:Int))))=[]:=by
    simp_all
   grind
  have O:(o++l.filter λx=>(x.at_==(k:Int))&&qv l known x).length<=512:=by
   rw[<-xF E];grind
  refine⟨λ_=>Rz l default (λx=>(x.at_==(k:Int))&&qv l known x) o (stp _) λi s hi hs=>λ_ _=>by grind [dh],.inr ⟨_,rfl,?_,k+1,?_,XM,.inr XM,?_,?_,E,O⟩⟩;grind [ar]
  grind [ar]
  refine El h2 (List.pairwise_of_forall_mem_list λx W y hy=>?_) λx W y hy=>?_ <;>grind;grind
  have:Em l hour known=l.filter λx=>qv l known x&&decide (x.at_< (k:Int)):=by
   show l.filter (lv l hour known)=_;refine List.filter_congr λx W=>?_;rw[amv];have:=(V.fit x W).at0;have:=(V.fit x W).at1;grind
  grind
  intro t;rw[ar_];show l.filter _=[];rw[List.filter_eq_nil_iff];intro a ha;have:=(V.fit a ha).at0;grind
 unfold kS dA;rw[k2];exact⟨⟨k1,λz h=>by cases h⟩,BR Y k4⟩
def auo (F:Nat)(s:List Int)(g:Int->Int):Prop:=s.length=F/\∀ f:Nat,f<F->s.getD f 0=g (f:Int)
variable {g:Int->Int}{f:Int}
theorem auo.set{F:Nat}{s:List Int}(h:auo F s g){v:Int}(E:0<=f)(h1:f< (F:Int)):auo F (s.set f.toNat v) (kq g f v):=by
 refine⟨by rw[ark];exact h.1,λi hi=>?_⟩;have O:=h.1;unfold kq;by_cases e:i=f.toNat
 grind
 rw[if_neg XM,asx,List.getElem?_set_ne (λh=>e h.symm),<-asx,h.2 i hi]
theorem auo.get{F:Nat}{s:List Int}(h:auo F s g)(E:0<=f)(h1:f< (F:Int)):s.getD f.toNat 0=g f:=by
 rw[h.2 f.toNat XM,ard E]
def BU (r:Int):List bo->(Int->Int->Int)->List Int
 | [],_=>[]|x::ds,B=>(if x.right=r/\B x.right x.since=0 then [x.no]else [])++BU r ds (oW x B)
theorem Mx (ds:List bo)(B:Int->Int->Int){j:Nat}(E:j<ds.length):rL (ds.take (j+1)) B=oW (ds.getD j default) (rL (ds.take j) B):=by
 grind [cj,rL]
variable {r:Nat}
theorem aas{ds:List bo}{j:Nat}{x:bo}(ex:ds.getD j default=x)(hx:Fit d x)(hk:x.kind≠4){L:Int}(hL:L<=1073741824){e s:List Int}(hg:Good d.zs.length L g)(hs:auo d.zs.length s g)(he:(e.length+1)*8<=dh):
  iH ds r j (e,s)/\∃ s',iQ ds r j (e,s)=.inr (e++(if x.right=(r:Int)/\g x.since=0 then [x.no]else []),s')/\auo d.zs.length s' (if x.right=(r:Int)then BT x g else g):=by
 obtain⟨_,_,_,s0,s1⟩:=hx.held hk;have hsl:=hs.1;have gs:=hs.get s0 s1;unfold iH iQ mI eK mJ ph;rw[ex];by_cases hr:x.right=(r:Int)
 have b0:(x.right !=(r:Int))=false:=XN
 simp only[hr,bne_self_eq_false,cond_false,true_and,if_true];simp only[gs];have hlen:(e++[x.no]).length=e.length+1:=by simp
 by_cases hn:g x.since=0
 simp_all [BT];have b1:(g x.since==0)=false:=XN
 rw[b1,if_neg hn];simp only[cond_false,aqo];have hnn:=hg.nn x.since;have hle:=hg.avc XM x.since;have r1:=hs.set (v:=0) s0 s1;have g1:Good d.zs.length (L - g x.since) (kq g x.since 0):=hg.put s0 s1 (aqO _) (by have:=hg.tot;omega);have hgl:g x.since<=L:=ast (I6 hg.nn _ _ s0 s1) hg.tot;have hl1:(s.set x.since.toNat 0).length=d.zs.length:=r1.1;by_cases k1:x.kind=1
 have c1:(x.kind==1)=true:=by rw[k1];rfl
 have c2:(x.kind==2)=false:=by rw[k1];rfl
 have⟨a,b,c⟩:=hx.pass k1;simp only[c1,c2];have gt:=r1.get a b;have hto:=g1.avc XM x.to;rw[gt,ar (n:=kq g x.since 0 x.to+g x.since) XM XM];refine⟨λ_ _=>⟨XM,(λh=>by cases h),λ_=>⟨XM,λ_=>⟨XM,XM⟩,(λh=>by cases h)⟩⟩,_,rfl,?_⟩;unfold BT;rw[if_neg hn,if_pos k1];exact r1.set a b;have c1:(x.kind==1)=false:=XN
 by_cases k2:x.kind=2
 have c2:(x.kind==2)=true:=by rw[k2];rfl
 simp only[c1,c2,cond_true,cond_false];have E:=hx.split k2;have h0:=hnn;obtain⟨l1,l2⟩:=OA E (g x.since);generalize hn':g x.since=n at *;generalize hG:kq g x.since 0=g0 at *;generalize hS:s.set x.since.toNat 0=q0 at *;have V:∀ (i:Nat) (t:List Int×Int),i<x.parts.length->auo d.zs.length t.1 (ug (x.parts.take i) n g0)->t.2=n - eZ (x.parts.take i) n->
   ((oQ (x.parts.getD i default).share n)/\((0<=(x.parts.getD i default).gl/\(x.parts.getD i default).gl< (t.1.length:Int))/\(0<=(x.parts.getD i default).gl/\(x.parts.getD i default).gl< (t.1.length:Int))))/\
   auo d.zs.length (t.1.set (x.parts.getD i default).gl.toNat (i64.wrap ((t.1.getD (x.parts.getD i default).gl.toNat 0)+(gM (x.parts.getD i default).share n).1))) (ug (x.parts.take (i+1)) n g0)/\i64.wrap (t.2 - (gM (x.parts.getD i default).share n).1)=n - eZ (x.parts.take (i+1)) n:=λi t hi Y q2=>by
  have hm:x.parts.getD i default∈x.parts:=XN
  have⟨f0,f1,f2,f3⟩:=E.fit _ hm;have⟨tp,tv⟩:=TT f2 h0 (by omega:n<=1073741824);have elo:(gM (x.parts.getD i default).share n).1=loP (x.parts.getD i default) n:=tv;have⟨w1,w2⟩:=uY h0 (x.parts.take i) _ _ (E.fit.take _) g1;have key:∀ l:List Part,au8 d.zs.length l->0<=eZ l n:=λl=>by
   induction l with
   |nil=>grind [eZ]
   |cons p r ih=>
    intro hp;have⟨_,_,c,e⟩:=hp p aqh;have:=aal c e h0;have:=ih λq hq=>hp q (aqj _ hq);grind [eZ]
  have adw:∀ k,0<=eZ (x.parts.take k) n/\eZ (x.parts.take k) n<=eZ x.parts n:=λk=>by
   have h1:=key _ (E.fit.take k);have h2:=key (x.parts.drop k) λp hp=>E.fit p (as1 hp);grind [List.take_append_drop,eZ]
  have u1:=adw i;have u2:=adw (i+1);rw[cj _ default hi,yq]at u2;have hv:=w1.avc XM (x.parts.getD i default).gl;have gv:=Y.get f0 f1;have hl:=Y.1;rw[elo,gv,ar (n:=ug (x.parts.take i) n g0 (x.parts.getD i default).gl+loP (x.parts.getD i default) n) XM XM,ar XM XM,cj _ default hi,yq,Ms];exact⟨⟨tp,XM,XM⟩,Y.set f0 f1,XM⟩
 have eL:=i_ (step:=λ(O:Nat) (X:List Int×Int) =>(.inr ((X.1.set (Int.toNat ((x.parts.getD O (default:Part)).gl)) (i64.wrap ((X.1.getD (Int.toNat ((x.parts.getD O (default:Part)).gl)) (0:Int))+(gM ((x.parts.getD O (default:Part)).share) n).1))),(i64.wrap (X.2 - (gM ((x.parts.getD O (default:Part)).share) n).1))):Empty⊕(List Int×Int))) (λi t=>auo d.zs.length t.1 (ug (x.parts.take i) n g0)/\t.2=n - eZ (x.parts.take i) n) x.parts.length 0 (q0,n) ⟨by grind [ug],by simp[eZ]⟩ (λi t _ hi ⟨Y,q2⟩ =>by
  grind)
 obtain⟨⟨t1,lf⟩,e1,a1,a2⟩:=eL;rw[aqu,ary]at a1 a2;simp only at a1 a2;obtain⟨Y,q2⟩:=uY h0 x.parts _ _ E.fit g1;have W:∀ (i:Nat) (t:List Int),i<lf.toNat->auo d.zs.length t (re (x.parts.take i) (ug x.parts n g0))->
   (((0<=(i:Int)/\(i:Int) < ((x.parts).length:Int))/\((0<=(x.parts.getD i (default:Part)).gl/\(x.parts.getD i (default:Part)).gl< (t.length:Int))/\(0<=(x.parts.getD i (default:Part)).gl/\(x.parts.getD i (default:Part)).gl< (t.length:Int)))))/\
   auo d.zs.length (t.set (x.parts.getD i default).gl.toNat (i64.wrap ((t.getD (x.parts.getD i default).gl.toNat 0)+1))) (re (x.parts.take (i+1)) (ug x.parts n g0)):=λi t hi p1=>by
  have hi':i<x.parts.length:=XM
  have hm:x.parts.getD i default∈x.parts:=XN
  have⟨f0,f1,f2,f3⟩:=E.fit _ hm;have⟨w1,w2⟩:=yr (x.parts.take i) _ _ (E.fit.take _) Y;have hlen:(x.parts.take i).length=i:=XN
  have hv:=w1.avc XM (x.parts.getD i default).gl;have gv:=p1.get f0 f1;have hl:=p1.1;rw[gv,ar XM XM,cj _ default hi',I_];exact⟨⟨⟨XM,XM⟩,⟨XM,XM⟩⟩,p1.set f0 f1⟩
 obtain⟨t2,e2,b1⟩:=i_ (step:=λ(k_2:Nat) (s_2:List Int) =>(.inr (s_2.set (Int.toNat ((x.parts.getD k_2 (default:Part)).gl)) (i64.wrap ((s_2.getD (Int.toNat ((x.parts.getD k_2 (default:Part)).gl)) (0:Int))+1))):Empty⊕(List Int))) (λi t=>auo d.zs.length t (re (x.parts.take i) (ug x.parts n g0))) lf.toNat 0 t1 (by grind [re]) (λi t _ hi q=>by
  grind)
 rw[aqu]at b1;rw[e1];simp only[e2];refine⟨λ_ _=>⟨XM,(λh=>by cases h),λ_=>⟨XM,(λh=>by cases h),λ_=>⟨?_,λz hz=>?_⟩⟩⟩,t2,rfl,?_⟩;refine gq (λi t=>auo d.zs.length t.1 (ug (x.parts.take i) n g0)/\t.2=n - eZ (x.parts.take i) n) _ _ _ ⟨by grind [ug],by simp[eZ]⟩ λi t _ hi q=>⟨λ_=>(V i t XM q.1 q.2).1,λt' ht=>XN⟩;cases hz;have hpl:=E.len;refine⟨XM,gq (λi t=>auo d.zs.length t (re (x.parts.take i) (ug x.parts n g0))) _ _ _ (by grind [re]) λi t _ hi q=>⟨(W i t XM q).1,λt' ht=>XN⟩⟩;simp_all [BT,Ev];have c2:(x.kind==2)=false:=XN
 simp[c1,c2];simp_all [BT];grind
theorem amw(h:aB d=0)(hR:atq d){ds:List bo}(hd:∀ x∈ds,Fit d x/\x.kind≠4)(hl:ds.length<=512)(hr:r<d.bl.length)(hk:(d.bl.getD r default).kind=1):
  qY d ds (r:Int)/\∃ s,eY d ds (r:Int)=(s,BU r ds (B0 d))/\auo d.zs.length s (rL ds (B0 d) r):=by
 have O:=GP h hr hk;have hfl:=hR.zs;have⟨bg,bt⟩:=Vu h hr hk;have hg:∀ j,Good d.zs.length (d.bl.getD r default).bn (rL (ds.take j) (B0 d) r):=λj=>(OD (ds.take j) _ (λx hx=>hd x (aqT hx)) bg).1;have X:auo d.zs.length ((List.replicate (Int.toNat (d.zs.length:Int)) (0:Int)).set (Int.toNat ((d.bl.getD (Int.toNat (r:Int)) (default:atN)).gl)) (d.bl.getD (Int.toNat (r:Int)) (default:atN)).bn) (B0 d r):=by
  have h1:auo d.zs.length (List.replicate d.zs.length 0) (λ_=>0):=⟨by simp,λf hf=>XN⟩;have h2:=h1.set (v:=(d.bl.getD r default).bn) O.f0 O.f1;have e:B0 d r=kq (λ_=>0) (d.bl.getD r default).gl (d.bl.getD r default).bn:=by
   unfold B0 kq;grind
  grind
 have E:∀ j,j<ds.length->ds.drop j=ds.getD j default::ds.drop (j+1):=λj V=>by simp_all
 have elen:∀ (l:List bo) (B:Int->Int->Int),(BU r l B).length<=l.length:=λl=>by
  induction l with
  |nil=>grind [BU]
  |cons x l ih=>
   grind [BU]
 have step:∀ j (s:List Int×List Int),j<ds.length->s.1++BU r (ds.drop j) (rL (ds.take j) (B0 d))=BU r ds (B0 d)->auo d.zs.length s.2 (rL (ds.take j) (B0 d) r)->
   iH ds r j s/\∃ s',iQ ds r j s=.inr s'/\s'.1++BU r (ds.drop (j+1)) (rL (ds.take (j+1)) (B0 d))=BU r ds (B0 d)/\auo d.zs.length s'.2 (rL (ds.take (j+1)) (B0 d) r):=λj s V j1 j2=>by
  have⟨e,s⟩:=s;have Y:ds.getD j default∈ds:=XN
  have hlen:e.length<=512:=by
   grind
  have⟨q1,s',q2,q3⟩:=aas (ds:=ds) (j:=j) (r:=r) rfl (hd _ Y).1 (hd _ Y).2 O.l1 (e:=e) (hg j) j2 (by unfold dh;omega);refine⟨q1,_,q2,?_,?_⟩;rw[<-j1,E j V,Mx ds (B0 d) V];simp[BU];grind
  rw[Mx ds (B0 d) V];show auo _ s' (if(r:Int)=(ds.getD j default).right then BT _ (rL (ds.take j) (B0 d) r)else _);grind
 have⟨⟨e,s⟩,r1,r2,r3⟩:=i_ (step:=iQ ds r) (λj s=>s.1++BU r (ds.drop j) (rL (ds.take j) (B0 d))=BU r ds (B0 d)/\auo d.zs.length s.2 (rL (ds.take j) (B0 d) r)) ds.length 0 ([],_) ⟨by simp[rL],X⟩ (λj s _ V ⟨j1,j2⟩ =>by
  grind)
 simp[BU]at r2 r3;refine⟨λ_=>⟨⟨rfl,XM,by unfold dh;omega⟩,λ_=>⟨XM,XM,?_,?_⟩⟩,s,?_,r3⟩;simp[arD];exact⟨O.f0,O.f1⟩;exact gq (λj s=>s.1++BU r (ds.drop j) (rL (ds.take j) (B0 d))=BU r ds (B0 d)/\auo d.zs.length s.2 (rL (ds.take j) (B0 d) r)) _ _ _ ⟨by simp[rL],X⟩ λj s _ V W=>⟨(step j s XM W.1 W.2).1,λs' h=>by
  grind⟩
 grind [eY]
theorem Lc(h:B r=λ_=>0):kW d B r=[]:=by
 rw[asl];intro x E;have⟨f,_,h0,_⟩:=rf.1 E;grind
theorem awo (d:ai)(l:List bo)(hour known:Int):vJ d l hour known/\kT d l hour known=aJ d l hour known:=by
 rw[(Mw d l hour known).2];unfold vJ kT;rw[Vr];cases hc:(bj d l !=0)with
 |true=>
  refine⟨⟨AG d l,(λh=>by cases h)⟩,?_⟩;grind
 |false=>
  have hc:bj d l=0:=XN
  have E:=vH hc;have hE:=((AC d l).1 hc).1;rw[if_neg (by simp[hc])];by_cases hg:0<=hour/\hour<d.hours/\0<=known/\known<=1048576
  have e:((((decide (hour<0)) ||(decide (hour>=d.hours))) ||(decide (known<0))) ||(decide (known > 1048576)))=false:=by
   grind
  rw[e,if_pos hg];have⟨c1,c2⟩:=TW E hour known;have O:=C_ E hour known;have X:(stS (Em l hour known)).length<=512:=by rw[Vt];exact aqp (arg _ _) E.len
  have hH:=Rx hE O;have hfl:=E.right.zs;have hrl:=E.right.bl;have row:∀ (j:Nat) (s:List atr),j<d.bl.length->s=(List.range j).flatMap (kW d (ln d l hour known))->oU d l hour known j s/\qo d l hour known j s=.inr ((List.range (j+1)).flatMap (kW d (ln d l hour known))):=λj s hj W=>by
   rw[asS,as5,aqx,arp,<-W];have hslen:s.length<=j*600:=by
    have:=xH (kW d (ln d l hour known)) 600 (List.range j) λr _=>aqp (arH _ _) XN;grind
   unfold oU qo;by_cases hk:(d.bl.getD j default).kind=1
   have b:((d.bl.getD j default).kind !=1)=false:=by rw[hk];rfl
   rw[b];have⟨p1,q,p2,p3⟩:=amw hE E.right O X hj hk;have V:∀ (i:Nat) (t:List atr),i<d.zs.length->t=s++(List.range i).filterMap (z5 d (ln d l hour known) j)->oT d l hour known j i t/\qn d l hour known j i t=.inr (s++(List.range (i+1)).filterMap (z5 d (ln d l hour known) j)):=λi t hi Y=>by
    unfold oT qn;have hq:q.getD i 0=ln d l hour known j i:=p3.2 i hi;refine⟨λ_ _=>by grind [dh],?_⟩;rw[asS,asi,<-aqY];by_cases h0:0<ln d l hour known j i
    have e:z5 d (ln d l hour known) j i=some { right:=(j:Int),gl:=(i:Int),bn:=ln d l hour known j i,att:=(d.bl.getD j default).att}:=by unfold z5;grind
    grind
    have e:z5 d (ln d l hour known) j i=none:=by unfold z5;grind
    grind
   have hql:((eY d (dA l hour known) (j:Int)).1).length=d.zs.length:=by rw[c2,p2];exact p3.1
   have⟨t,u1,u2⟩:=i_ (step:=qn d l hour known j) (λi t=>t=s++(List.range i).filterMap (z5 d (ln d l hour known) j)) d.zs.length 0 s (by simp) (λi t _ hi Y=>⟨_,(V i t XM Y).2,rfl⟩);rw[hql,u1];refine⟨λ_ _=>⟨XN,gq (λi t=>t=s++(List.range i).filterMap (z5 d (ln d l hour known) j)) _ _ _ (by simp) λi t _ hi Y=>⟨(V i t XM Y).1,λt' h=>?_⟩⟩,?_⟩;grind
   simp[u2,aqu];rfl;have e0:ln d l hour known j=λ_=>0:=hH.other j λhr=>hk XN;grind [Lc]
  have⟨s,v1,v2⟩:=i_ (step:=qo d l hour known) (λj s=>s=(List.range j).flatMap (kW d (ln d l hour known))) d.bl.length 0 [] (by simp) (λj s _ hj W=>⟨_,(row j s XM W).2,rfl⟩);refine⟨⟨AG d l,λ_ _=>⟨c1,gq (λj s=>s=(List.range j).flatMap (kW d (ln d l hour known))) _ _ _ (by simp) λj s _ hj W=>⟨(row j s XM W).1,λs' h=>?_⟩⟩⟩,?_⟩;grind
  rw[v1,v2,aqu];rfl;have e:((((decide (hour<0)) ||(decide (hour>=d.hours))) ||(decide (known<0))) ||(decide (known > 1048576)))=true:=by
   grind
  rw[e,if_neg hg];exact⟨⟨AG d l,(λ_ h=>by cases h)⟩,rfl⟩
def aat (x:atN)(h:Int):Bool:=decide (x.since<=h)&&decide (h<=x.to)&&decide (Int.tmod (h - x.since) x.every<x.length)
def opn (d:ai)(h:Int)(x:atr):Option Claim:=if aat (d.bl.getD (Int.toNat x.right) default) h=true then some { right:=x.right,gl:=x.gl,hour:=h,bn:=x.bn,att:=x.att}else none
def nJ (d:ai)(l:List bo)(h k:Int):List Claim:=(aJ d l h k).1.filterMap (opn d h)
structure avl (d:ai)(x:atN):Prop where
 avD:0<=x.since
 every:1<=x.every
 awR:0<=x.att
 awT:0<=x.gl
theorem TX(h:aB d=0){k:Nat}(W:k<d.bl.length)(V:(d.bl.getD k default).kind=1):avl d (d.bl.getD k default):=by
 have:=((ql d).1 h).2.2.2.2.2.2.2.1 k W;unfold eB at this;rw[iY]at this;have h2:i9 d (d.bl.getD k default)=true:=by
  grind
 unfold i9 at h2;cases E:((!(cK (d.bl.getD k default).gl (d.zs.length:Int))) ||(!(cK (d.bl.getD k default).reach (d.reaches.length:Int)))) ||(!(aS ([0,(d.bl.getD k default).since,(d.bl.getD k default).to,(i64.wrap (d.hours - 1))])))with
 |true=>grind
 |false=>
  rw[E,show((d.bl.getD k default).kind==1)=true by rw[V];rfl]at h2;simp only[cond_true,cond_false,ap9]at h2;simp only[aqt,aq9]at E;have O:=E.1.1;unfold cK at O;simp only[ap9,decide_eq_true_eq]at O;have X:=yk h2.1.1.2;have Y:=sP h2.2;have h8:=sP E.2;exact⟨XM,XM,XM,XM⟩
variable {h k:Int}{x:atr}
theorem aau(E:x∈(aJ d l h k).1):aB d=0/\(0<=h/\h<d.hours)/\0<=x.right/\x.right< (d.bl.length:Int)/\0<=x.gl/\x.gl< (d.zs.length:Int)/\0<x.bn/\x.bn<=1073741824/\x.att=(d.bl.getD x.right.toNat default).att/\(d.bl.getD x.right.toNat default).kind=1:=by
 rw[(Mw d l h k).2]at E;by_cases hc:bj d l=0
 rw[if_neg (by simp[hc])]at E;by_cases O:0<=h/\h<d.hours/\0<=k/\k<=1048576
 rw[if_pos O]at E;have V:=((AC d l).1 hc).1;have⟨a,b,c,e,f,g,i⟩:=AH.1 E;have W:=Rx V (C_ (vH hc) h k);refine⟨V,⟨O.1,O.2.1⟩,a,b,c,e,f,?_,i,?_⟩;rw[g];exact W.le V _ _;rcases asR ((d.bl.getD x.right.toNat default).kind=1)with hk|hk;exact hk;have:=W.other x.right (λX=>hk X.2.2);rw[g]at f;unfold ln at f;grind
 grind
 grind
theorem aav {d:ai}{l:List bo}{h k:Int}:(aJ d l h k).1.length<=600*d.bl.length/\(aJ d l h k).1.length<=153600:=by
 rw[(Mw d l h k).2];by_cases hc:bj d l=0
 rw[if_neg (by simp[hc])];by_cases O:0<=h/\h<d.hours/\0<=k/\k<=1048576
 rw[if_pos O];have E:=(vH hc).right;refine⟨?_,Mu E _⟩;have:=xH (kW d (ln d l h k)) 600 (List.range d.bl.length) λr _=>by
  refine aqp (arH _ _) ?_;rw[arG];exact E.zs
 grind [tX]
 grind
 grind
theorem Xa (d:ai)(l:List bo)(h k:Int):(aJ d l h k).1.Pairwise hlt:=by
 rw[(Mw d l h k).2];split
 simp_all;split
 exact yu _ _;simp_all
theorem My (d:ai)(l:List bo)(h k:Int):(nJ d l h k).length<=600*d.bl.length/\(nJ d l h k).length<=153600:=by
 have:= @aav d l h k;have h2:=arH (opn d h) (aJ d l h k).1;unfold nJ;omega
variable {c:Claim}
theorem Jb(e:opn d h x=some c):aat (d.bl.getD (Int.toNat x.right) (default:atN)) h=true/\c= { right:=x.right,gl:=x.gl,hour:=h,bn:=x.bn,att:=x.att}:=by
 grind [opn]
structure auS (d:ai)(h:Int)(c:Claim):Prop where
 exp:aB d=0
 hour:c.hour=h
 h0:0<=h
 h1:h<d.hours
 r0:0<=c.right
 r1:c.right< (d.bl.length:Int)
 f0:0<=c.gl
 f1:c.gl< (d.zs.length:Int)
 l0:0<c.bn
 l1:c.bn<=1073741824
 att:c.att=(d.bl.getD c.right.toNat default).att
 kind:(d.bl.getD c.right.toNat default).kind=1
theorem Jc(hc:c∈nJ d l h k):auS d h c:=by
 unfold nJ at hc;rw[atc]at hc;have⟨x,hx,e⟩:=hc;obtain⟨_,rfl⟩:=Jb e;have⟨a0,⟨a,b⟩,c,e,f,g,i,j,m,n⟩:=aau hx;exact⟨a0,rfl,a,b,c,e,f,g,i,j,m,n⟩
theorem Fy (d:ai)(l:List bo)(h k:Int):(nJ d l h k).Pairwise λa b=>¬ (a.right=b.right/\a.gl=b.gl):=by
 unfold nJ;rw[asb];refine(Xa d l h k).imp λ{a b} E x O y hy=>?_;obtain⟨_,rfl⟩:=Jb O;obtain⟨_,rfl⟩:=Jb hy;simp[hlt,qw,and_false,or_false]at E |-;omega
theorem aaw {a b:Claim}(h:¬ (a.right=b.right/\a.gl=b.gl)):uH a b\/uH b a:=by
 simp[uH,qw];omega
theorem TY{a b:Claim}(h1:uH a b)(h2:uH b c):uH a c:=by simp[uH,qw,and_false,or_false]at *;omega
def yw (l:List Claim)(x:Claim):List Claim:=l.takeWhile (λy=>decide (c8 y x<0))++x::l.dropWhile (λy=>decide (c8 y x<0))
def vP (d:ai)(l:List bo)(h k:Int):List Claim:=(nJ d l h k).foldl yw []
theorem Mz (l:List Claim)(x:Claim):(yw l x).Perm (x::l):=by
 grind [yw,List.takeWhile_append_dropWhile]
variable {l:List Claim}{x:Claim}
theorem Xb(O:l.Pairwise uH):∀ y∈l.dropWhile (λy=>decide (c8 y x<0)),¬uH y x:=by
 induction l with
 |nil=>simp_all
 |cons z l V=>
  rw[aqR]at O;intro y hy;rw[List.dropWhile_cons]at hy;split at hy
  grind
  rename_i E;have E:¬uH z x:=λh=>E (decide_eq_true ((C9 z x).2 h));rcases aqg.1 hy with rfl|hy;exact E;exact λh=>E (TY (O.1 y hy) h)
theorem aax:∀ y∈l.takeWhile (λy=>decide (c8 y x<0)),uH y x:=by
 induction l with
 |nil=>simp_all
 |cons z l O=>
  intro y hy;rw[ar1]at hy;split at hy
  rename_i E;rcases aqg.1 hy with rfl|hy;exact(C9 y x).1 (of_decide_eq_true E);grind
  cases hy
theorem RA(E:l.Pairwise uH)(O:∀ y∈l,¬ (x.right=y.right/\x.gl=y.gl)):(yw l x).Pairwise uH:=by
 have W:=List.takeWhile_append_dropWhile (p:=λy=>decide (c8 y x<0)) (l:=l);unfold yw;have h1:=aax (l:=l) (x:=x);have h2:=Xb (x:=x) E;have V:∀ y∈l.dropWhile (λy=>decide (c8 y x<0)),y∈l:=λy hy=>(List.dropWhile_sublist _).subset hy;have X:∀ y∈l.dropWhile (λy=>decide (c8 y x<0)),uH x y:=λy hy=>by
  rcases aaw (O y (V y hy))with h|h <;>grind
 grind [List.pairwise_cons]
theorem Jd:∀ (r s:List Claim),s.Pairwise uH->(r.Pairwise λa b=>¬ (a.right=b.right/\a.gl=b.gl))->(∀ a∈s,∀ b∈r,¬ (a.right=b.right/\a.gl=b.gl))->(r.foldl yw s).Perm (s++r)/\(r.foldl yw s).Pairwise uH
 | [],s,E,_,_=>⟨by simp,E⟩
 |x::r,s,E,hr,O=>by
  rw[aqR]at hr;have W:=Mz s x;have⟨h1,h2⟩:=Jd r (yw s x) (RA E λy hy h=>O y hy x (by simp) ⟨h.1.symm,h.2.symm⟩) hr.2 λa V b X=>by
   grind
  grind
theorem BV (d:ai)(l:List bo)(h k:Int):(vP d l h k).Perm (nJ d l h k):=by
 have:=(Jd (nJ d l h k) [] List.Pairwise.nil (Fy d l h k) (λa E=>by cases E)).1;exact this
theorem OE (d:ai)(l:List bo)(h k:Int):(vP d l h k).Pairwise uH:=(Jd (nJ d l h k) [] List.Pairwise.nil (Fy d l h k) (λa E=>by cases E)).2
def Da{l:List bo}(a:c∈vP d l h k):auS d h c:=Jc ((BV d l h k).subset a)
end Go.Sx
end
