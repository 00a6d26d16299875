/- Part of the proof that the law RefuseHolds returns true and leaves its arguments as they were, for all arguments of bulk at most 1048576 (the Upto form). -/
import Derived.Test.YtaikmgjfkejlkaaGreatH110
import Derived.Test.YtaikmgjfkejlkaaGreatH109
import Derived.Test.YtaikmgjfkejlkaaGreatH108
import Derived.Shelf.SlSortCmp.NoneTotal
import Derived.Ground.SlsfProg
import Derived.Test.YtaikmgjfkejlkaaGreatH103
import Derived.Test.YtaikmgjfkejlkaaGreatProg
import Derived.Test.YtaikmgjfkejlkaaGreatH107
set_option linter.all false
set_option maxHeartbeats 4000000
set_option maxRecDepth 100000
section
namespace Go.Sx
open Go.Proofs
open IntKind (i64)
theorem Aw {ρ τ:Type}{step:τ->Unit->ρ⊕Unit}:∀ {L:List τ},cG step L ()=.inr ()↔∀ x∈L,step x ()=.inr ()
 | [] =>by simp[cG]
 |x::r=>by
  simp only[cG,aoD,forall_eq_or_imp];cases h:step x ()with
  |inl y=>simp|inr y=>simp only[true_and];exact Aw
def PA {α:Type}(l:List α)(d r:α)(i k:Nat)(hi:i<l.length):(l.set i r).getD k d=if k=i then r else l.getD k d:=by
 grind
theorem MQ (l:List Int)(hl:l.length<=aI):okI (cI l) (dB l) (l.length+1) 0 (l,0,(i64.wrap ((l.length:Int) - 1)))/\aj (cI l) (l.length+1) 0 (l,0,(i64.wrap ((l.length:Int) - 1)))=.inl l.reverse:=by
 unfold aI at hl;rw[aw g5 g5];have key:∀ (n k:Nat) (s:List Int),n+k=l.length+1->s.length=l.length->2*k<=l.length+1->(∀ p,p<l.length->s.getD p 0=if p<k\/l.length<=p+k then l.getD (l.length - 1 - p) 0 else l.getD p 0)->
   okI (cI l) (dB l) n k (s,(k:Int),(l.length:Int) - 1 - k)/\(1<=n->aj (cI l) n k (s,(k:Int),(l.length:Int) - 1 - k)=.inl l.reverse):=by
  intro n;induction n with
  |zero=>omega
  |succ n ih=>
   intro k s hn hs hk E;have hstep:cI l k (s,(k:Int),(l.length:Int) - 1 - k)=if(k:Int) < (l.length:Int) - 1 - k then .inr ((s.set k (s.getD (l.length - 1 - k) 0)).set (l.length - 1 - k) (s.getD k 0),((k+1:Nat):Int),(l.length:Int) - 1 - ((k+1:Nat):Int))else .inl s:=by
    unfold cI;simp only;by_cases hlt:(k:Int) < (l.length:Int) - 1 - k
    rw[decide_eq_true hlt,if_pos hlt,aw g5 g5,aw g5 g5];simp only[cond_true,aol];have e:((l.length:Int) - 1 - k).toNat=l.length - 1 - k:=g5
    grind
    grind
   by_cases hlt:(k:Int) < (l.length:Int) - 1 - k
   have O:∀ p,p<l.length->((s.set k (s.getD (l.length - 1 - k) 0)).set (l.length - 1 - k) (s.getD k 0)).getD p 0=if p<k+1\/l.length<=p+(k+1)then l.getD (l.length - 1 - p) 0 else l.getD p 0:=λp V=>by
    rw[PA _ _ _ _ _ g6,PA _ _ _ _ _ g5];have h1:=E k g5;have h2:=E (l.length - 1 - k) g5;rw[if_neg g5]at h1 h2;by_cases X:p=l.length - 1 - k
    rw[if_pos X,if_pos g5,h1];congr 1;omega
    rw[if_neg X];by_cases Y:p=k
    grind
    rw[if_neg Y,E p V];omega
   have:=ih (k+1) _ g5 g6 g5 O;refine⟨⟨?_,λs' W=>?_⟩,λ_=>?_⟩;unfold dB;simp only;intro _;have e1:(s.set (Int.toNat (k:Int)) (s.getD (Int.toNat ((l.length:Int) - 1 - k)) 0)).length=l.length:=g6
   omega;grind
   simp only[aj,hstep,if_pos hlt];grind
   refine⟨⟨?_,λs' W=>?_⟩,λ_=>?_⟩;grind [dB]
   grind
   simp only[aj,hstep,if_neg hlt];congr 1
   apply aqZ;grind
   intro p h1 h2;rw[List.getElem_reverse];have:=E p g5;rw[ik s 0 h1,ik l 0 g5]at this;rw[this];by_cases q:p<k\/l.length<=p+k
   rw[if_pos q];rw[if_neg q,ik l 0 g5];congr 1;omega
 have h0:=key (l.length+1) 0 l g5 rfl g5 (λp E=>g5);grind
def afV (l:List Int)(E:l.length<=aI):gR l=l.reverse:=by
 grind [gR,MQ]
def akF (l:List Int):iD l:=λE=>⟨(MQ l E).1,λz O=>by grind [MQ]⟩
variable {d:ah}
def ado(hr:arW d){n:Int}(E:0<=n)(h1:n< (d.reaches.length:Int)):(0<n/\0<=(d.reaches.getD n.toNat (fg .reach)).up/\(d.reaches.getD n.toNat (fg .reach)).up<n)\/(n=0/\(d.reaches.getD n.toNat (fg .reach)).up= -1):=by
 have:=((RX _ _).1 (hr.reach n.toNat g5)).1;grind
def PB {d:ah}(hr:arW d):∀ (f:Nat) (n:Int),n< (d.reaches.length:Int)->n<f->OY d f n/\(upL d f n).length<=f/\∀ x∈upL d f n,0<=x/\x< (d.reaches.length:Int)
 |0,n,h1,h2=>⟨by unfold OY;omega,aom _,λx O=>by cases O⟩
 |f+1,n,h1,h2=>by
  by_cases E:0<=n
  have V:(d.reaches.getD n.toNat (fg .reach)).up<n:=by rcases ado hr E h1 with⟨_,_,h⟩ | ⟨h,h'⟩ <;>omega
  obtain⟨i1,W,X⟩:=PB hr f (d.reaches.getD n.toNat (fg .reach)).up g5 g5;refine⟨λ_=>⟨h1,i1⟩,?_,λx O=>?_⟩;rw[upL,if_pos E,aon];omega;rw[upL,if_pos E]at O;grind
  refine⟨λh=>absurd h E,by rw[FF E];simp,λx O=>by grind [FF]⟩
def DD (d:ah)(l:List Int):kF d l=0↔av d=0/\∀ x∈l,0<=x/\x< (d.reaches.length:Int):=by
 unfold kF;cases h1:(av d !=0)with
 |true=>grind
 |false=>
  simp at h1;simp only[cond_false,h1,true_and];let f:Int->Unit->Unit⊕Unit:=λx _=>(bif((decide (x<0)) ||(decide (x>=(d.reaches.length:Int))))then .inl ()else .inr ())
  have e:aj (ta d l) l.length 0 ()=cG f l ():=tD f 0 l ();grind [Aw]
structure asZ (d:ah)(reach:Int):Prop where
 chk:av d=0
 r0:0<=reach
 r1:reach< (d.reaches.length:Int)
theorem asZ.right{reach:Int}(h:asZ d reach):arW d:=kE (by rw[h.chk];rfl)
def PC (d:ah)(reach:Int):kF d [reach]=0↔asZ d reach:=by
 rw[DD];exact⟨λ⟨h1,h2⟩ =>⟨h1,(h2 reach (by simp)).1,(h2 reach (by simp)).2⟩,λh=>⟨h.chk,λx E=>by rw[ao6]at E;subst E;exact⟨h.r0,h.r1⟩⟩⟩
theorem asZ.up{reach:Int}(h:asZ d reach):px d reach/\(eW d reach).length<=64/\∀ x∈eW d reach,0<=x/\x< (d.reaches.length:Int):=by
 have:=PB h.right (reach.toNat+1) reach h.r1 g5;have h1:=h.right.reaches;have h2:=h.r1;exact⟨this.1,by grind [eW],this.2.2⟩
def Ax (d:ah)(reach:Int):rX d reach:=λh=>by
 have E:=(PC d reach).1 (by simpa using h);have O:=E.up;exact⟨⟨E.r0,O.1,by unfold dT;omega⟩,akF _⟩
def HR{reach:Int}(h:asZ d reach):nK d reach=((eW d reach).reverse,0):=by
 unfold nK;rw[(PC d reach).2 h,afV _ (by have:=h.up.2.1;unfold aI;omega)];rfl
def HS {d:ah}(hr:arW d):∀ (f m i:Nat) (n:Int) (E:List Int),0<=n->n< (d.reaches.length:Int)->n<f->n<m->E.length+n<=64->
  okI (iC d) (km d) m i (n::E)/\aj (iC d) m i (n::E)=.inl ((upL d f n).reverse++E)
 |0,_,_,n,_,h0,_,h2,_,_=>g5
 |f+1,0,_,n,_,h0,_,_,h3,_=>g5
 |f+1,m+1,i,n,E,h0,h1,h2,h3,h4=>by
  have Y:(n::E).getD 0 (0:Int)=n:=rfl;rcases ado hr h0 h1 with⟨hp,O,X⟩ | ⟨V,X⟩;have hstep:iC d i (n::E)=.inr ((d.reaches.getD n.toNat (fg .reach)).up::n::E):=by
   grind [iC]
  obtain⟨i1,i2⟩:=HS hr f m (i+1) (d.reaches.getD n.toNat (fg .reach)).up (n::E) O g5 g5 g5 g6;refine⟨⟨?_,λs W=>?_⟩,?_⟩;grind [km,dT]
  grind
  simp_all [aj,upL];subst V;have hstep:iC d i ((0:Int)::E)=.inl (0::E):=rfl;refine⟨⟨?_,λs W=>?_⟩,?_⟩;grind [km]
  grind
  simp_all [aj,upL,FF]
def afW{reach:Int}(h:asZ d reach):tL d reach/\jV d reach=(eW d reach).reverse:=by
 have h1:=h.right.reaches;have h2:=h.r1;have O:=h.r0;obtain⟨a,b⟩:=HS h.right (reach.toNat+1) 66 0 reach [] h.r0 h.r1 g5 g5 g6;rw[aoC]at b;exact⟨⟨a,λz E=>g6⟩,by unfold jV;rw[b];rfl⟩
theorem PD (x:Int)(l:List Int):gO (x::l)=if x=0 then gO l else x:=by
 have key:∀ l:List Int,gO l=match cG (ρ:=Int) (λ(x:Int) (_:Unit) =>bif(x !=0)then .inl x else .inr ()) l ()with| .inl y=>y| .inr _=>0:=λl=>by
  unfold gO;have:=tD (ρ:=Int) (λ(x:Int) (_:Unit) =>bif(x !=0)then .inl x else .inr ()) 0 l ();rw[<-this];rfl
 rw[key,key];simp only[cG];by_cases h:x=0
 subst h;rfl;have:(x !=0)=true:=by simpa using h
 rw[if_neg h,this];rfl
def Sc:gO []=0:=rfl
theorem HT:∀ l:List (Int×Int),(gO (l.map λp=>bv p.1 p.2) <0↔pO l)
 | [] =>by simp[Sc,pO]
 |(a,b)::r=>by
  have hc:=kD a b;simp only[aoO,PD,hc,pO];rcases aqQ a b with h|h|h;simp[h];subst h;simp only[arj,if_false,if_true,true_and,false_or,gt_iff_lt];exact HT r;have h1:¬a<b:=g5
  have h2:a≠b:=g5
  simp[h1,h2,h]
def tO (a b:Claim):Prop:=pO [(a.hour,b.hour),(a.arM,b.arM),(a.right,b.right),(a.dd,b.dd)]
def Ch (a b:Claim):df a b<0↔tO a b:=HT [(a.hour,b.hour),(a.arM,b.arM),(a.right,b.right),(a.dd,b.dd)]
def HU (a b:arv):gw a b<0↔tO a.W2 b.W2:=Ch a.W2 b.W2
open Go.Shelf Go.Sort in
theorem KL:SWO (ltOf gw):=Mz HU (λx=>by simp only[tO,pO,and_false,or_false];omega) (λx y z h1 h2=>by simp only[tO,pO,and_false,or_false]at *;omega) (λx y z h1 h2=>by simp only[tO,pO,and_false,or_false]at *;omega)
def hrs (a b:Int):List Int:=(List.range (b+1 - a).toNat).map λk:Nat=>a+(k:Int)
variable {a:Int}
theorem abK{b:Int}(h:b<a):hrs a b=[]:=by unfold hrs;grind
theorem PE{b:Int}(h:a<=b+1):hrs a (b+1)=hrs a b++[b+1]:=by
 unfold hrs;rw[show(b+1+1 - a).toNat=(b+1 - a).toNat+1 by omega,aqo,apT,List.map_singleton,show a+(((b+1 - a).toNat:Nat):Int)=b+1 by omega]
theorem abL{b x:Int}:x∈hrs a b↔a<=x/\x<=b:=by
 unfold hrs;rw[apb];constructor
 grind
 rintro⟨h1,h2⟩;exact⟨(x - a).toNat,g6,g5⟩
theorem afX (a b:Int):(hrs a b).Pairwise (· < ·):=by
 unfold hrs;rw[aqb];exact List.pairwise_lt_range.imp λh=>g5
theorem TO (a b:Int):(hrs a b).length=(b+1 - a).toNat:=by unfold hrs;simp
theorem abM {α β:Type}{R:β->β->Prop}{S:α->α->Prop}{f:α->List β}{l:List α}(W:l.Pairwise S)(h1:∀ a∈l,(f a).Pairwise R)(h2:∀ a∈l,∀ b∈l,S a b->∀ x∈f a,∀ y∈f b,R x y):(l.flatMap f).Pairwise R:=by
 rw[aq9];refine⟨h1,?_⟩;exact W.imp_of_mem λ{a b} V O E=>h2 a V b O E
theorem Vm {α β:Type}{f g:α->List β}{l:List α}(h:∀ a∈l,(f a).Perm (g a)):(l.flatMap f).Perm (l.flatMap g):=by
 induction l with
 |nil=>rfl
 |cons a l E=>
  grind
open Go.Shelf Go.Sort in
theorem HV {α:Type}{cf:α->α->Int}(E:SWO (ltOf cf)){s m:List α}(O:s.Perm m)(hm:m.Pairwise λx y=>cf x y<0):apart cf s/\srt cf s=m:=by
 have Y:∀ x y,ltOf cf x y=true↔cf x y<0:=λx y=>by unfold ltOf;grind
 have V:∀ x∈m,∀ y∈m,ltOf cf x y=false->ltOf cf y x=false->x=y:=λx W y hy h1 h2=>by
  obtain⟨i,hi,rfl⟩:=ao0.1 W;obtain⟨j,hj,rfl⟩:=ao0.1 hy;grind [List.pairwise_iff_getElem]
 refine⟨λx W y hy h1 h2=>V x (O.subset W) y (O.subset hy) h1 h2,?_⟩;unfold srt;have hq:(s.mergeSort λx y=>!(ltOf cf y x)).Perm m:=(apo _ _).trans O;refine apu (le:=λx y=>(!ltOf cf y x)=true) ?_ ?_ ?_ hq;grind
 refine apk ?_ ?_ s;intro a b c h1 h2;simp only[aox]at h1 h2 |-;exact E.3 c b a h2 h1;intro a b;simp only[aoN,aox];cases h1:ltOf cf b a with
 |false=>grind
 |true=>
  right;cases h2:ltOf cf a b with
  |false=>rfl|true=>have:=E.2 _ _ _ h1 h2;rw[E.1]at this;cases this
 refine hm.imp λ{a b} X=>?_;simp only[aox];cases h2:ltOf cf b a with
 |false=>rfl|true=>have:=E.2 _ _ _ ((Y _ _).2 X) h2;rw[E.1]at this;cases this
end Go.Sx
end
section
namespace Go.Proofs
open Go.Shelf Go.Sx
def Tryz.aty:Go.Shelf.Ren:=⟨λ|6=>231|15=>133|14=>286|28=>199|29=>200|20=>319|21=>320|22=>321|23=>322|24=>323|25=>324|26=>325|27=>326|46=>340|47=>260|48=>261|49=>341|50=>342|57=>346|n=>n,λ|22=>218|24=>222|25=>325|3=>3|39=>229|0=>0|53=>294|55=>296|4=>4|46=>288|45=>287|50=>267|5=>5|9=>9|66=>342|70=>60|76=>375|77=>376|n=>n,λ|n=>n⟩
theorem Tryz.at2:Go.Proofs.SlLaysF0.n6 Tryz.prog Tryz.aty:=⟨kr,⟨Tryz.f231.name,by decide,kr⟩,⟨Tryz.f286.name,by decide,kr⟩,kr,⟨Tryz.f319.name,by decide,kr⟩,⟨Tryz.f320.name,by decide,kr⟩,⟨Tryz.f321.name,by decide,kr⟩,⟨Tryz.f322.name,by decide,kr⟩,⟨Tryz.f323.name,by decide,kr⟩,⟨Tryz.f324.name,by decide,kr⟩,⟨Tryz.f325.name,by decide,kr⟩,⟨Tryz.f326.name,by decide,kr⟩,kr,kr,⟨Tryz.f340.name,by decide,kr⟩,kr,kr,⟨Tryz.f341.name,by decide,kr⟩,⟨Tryz.f342.name,by decide,kr⟩,⟨Tryz.f346.name,by decide,kr⟩,kr,λ_=>kr,λ_=>kr,λ_=>kr,kr,λ_=>kr,λ_=>kr,λ_=>kr,kr,λ_=>kr,λ_=>kr,λ_=>kr,kr,λ_=>kr,λ_=>kr,λ_=>kr,kr,λ_=>kr,λ_=>kr,λ_=>kr,kr,λ_=>kr,λ_=>kr,λ_=>kr,kr,λ_=>kr,λ_=>kr,λ_=>kr,kr,λ_=>kr,λ_=>kr,λ_=>kr,kr,λ_=>kr,λ_=>kr,λ_=>kr,kr,λ_=>kr,λ_=>kr,λ_=>kr,kr,λ_=>kr,λ_=>kr,λ_=>kr,kr,λ_=>kr,λ_=>kr,λ_=>kr,kr,λ_=>kr,λ_=>kr,λ_=>kr,kr,λ_=>kr,λ_=>kr,λ_=>kr,kr,λ_=>kr,λ_=>kr,λ_=>kr,kr,λ_=>kr,λ_=>kr,λ_=>kr,kr,λ_=>kr,λ_=>kr,λ_=>kr⟩
end Go.Proofs
end
section
namespace Go.Sx
open Go.Lib Go.Proofs Go.RowKit Go.Shelf Go.Sort Tryz
noncomputable def Et:List SV->List Ob->Option arV:=jR .holding 232 [] dm
@[go_sem]def YH {a:List arI}:Et [.os 0,.fn 232 [] []] [.row .holding a]=some (fM (apart dm a) (.tup []) [.row .holding (srt dm a)]):=oF
def JN:yQ .holding:=λx s E=>by
 simp only[cellsOf,aoD,apn,or_false]at E;rcases E with rfl|rfl|rfl|rfl;all_goals exact⟨_,rfl,rfl⟩
def Eu (x y:arI):xU (.agg (cellsOf .holding x):: .agg (cellsOf .holding y)::[])=some (.det True (.i (dm x y))):=by
 simp only[go_sem,Nat.reduceBEq]
def MR:arT prog 231 Et:=
 su (k:=.holding) Tryz.at2 (λw=>by kernel_rfl) (λw=>by kernel_rfl) JN (by decide) (g:=232) (caps:=[]) Dw (cf:=dm) Eu Eo (λs E=>by cases E) ⟨default,default,Eu _ _⟩
end Go.Sx
end
section
namespace Go.Sx
open Go.Proofs Tryz
open IntKind (i64)
variable {p:Prop}
def clQ(h:p:=by((repeat' (first|with_reducible refine And.intro ?_ ?_|with_reducible intro _)) <;>(first|done|with_reducible exact Empty.elim ‹Empty› |with_reducible assumption|rfl|((try simp only[Mg,Yg]at *);first|with_reducible assumption|(simp_all only[bp,eS];done) |grind|(simp_all only[bp,eS];grind))))):p:=h
@[go_sem] def fF (c:ah)(d:List bn)(e f:Int)(a:G2×Int)(b:List arI):Empty⊕(List arI):=(bif(decide (a.2 > 0))then .inr (b++([({ right:=a.1.right,dd:=a.1.dd,bl:=a.2,arM:=(c.bh.getD (Int.toNat a.1.right) default).arM}:arI)]))else .inr b)
def oa (b:ah)(d:List bn)(e f:Int)(a:G2×Int)(c:List arI):Prop:=((decide (a.2 > 0))=true->((0<=a.1.right/\a.1.right< (b.bh.length:Int))/\((c++([({ right:=a.1.right,dd:=a.1.dd,bl:=a.2,arM:=(b.bh.getD (Int.toNat a.1.right) default).arM}:arI)])).length*32<=dT)))
def aD (a:ah)(b:List bn)(c d:Int):List arI×Int:=letI e:=ba a b;(bif(e !=0)then([],e)else(bif((!(aU c 0 (i64.wrap (a.hours - 1)))) ||(!(aU d 0 1048576)))then([],1)else(match cG (fF a b c d) ((fJ a (fo b c d)).1) ([])with| .inl x=>x.elim| .inr f=>((srt dm f),0))))
def rY (a:ah)(b:List bn)(c d:Int):Prop:=letI g:= !(aU c 0 (i64.wrap (a.hours - 1)));letI e:=aD a b c d;letI f:=ba a b;letI h:= !(aU d 0 1048576);letI i:=fo b c d;letI j:=fF a b c d;((ll a b)/\(((f !=0)=true->(([],f)=e))/\((f !=0)=false->(((g||h)=true->(([],1)=e))/\((g||h)=false->((jr b c d)/\((mD a i)/\(∀ L_0,L_0.Perm ((fJ a i).1)->(okL j (oa a b c d) L_0 ([])/\(∀ l5,cG j L_0 ([])=.inr l5->((apart dm l5)/\(((srt dm l5),0)=e))))))))))))
@[go_sem] def Ay:m0:=(pD .al λa=>(pR .M1 λb=>(pI λc=>(pI λd=>(pE (.det (rY a b c d) (.tup [.nw .holding ((aD a b c d).1),.i ((aD a b c d).2)])))))))
def adp{l0 l1:List Nat}(a0:JL l0)(a1:JL l1)(h:JL l0->JL l1->p:=by intro ja jb;simp only[go_sem,apn];all_goals exact fU ja jb):p:=h a0 a1
def akG(h:p:=by simp only[go_sem];all_goals exact clQ):p:=h
theorem HW:X1 prog 157 Ay:=by
 have hG:=mG (cn [.st .al,.sl .M1] vC (cp uC (cn [.st .al,.o] AY (cn [.sl .M1,.o,.o] yX Y1)))) (co MR Y1);refine fW hG f157 [(.tmp 8,.holding)] (ax λa0=>(bG λa1=>(aG λY=>(aG λW=>(am (λhp=>?_))))));dsimp only[an]at hp;unfold rY at hp;refine⟨nbl rfl,(λid st=>bif Nat.beq id 0 then some (LCP (τ:=G2×Int) (ρ:=Empty) (σ:=(List arI)) 4 [.slot 8 (.row .holding ([]))] [0,1,2,3,4] (λE O V=>⟨[(4,.ptr 0 0),(8,.os 4),(41,.ptr 3 0)],[.cells (cellsOf .al a0),.mp .pq .int ((fJ a0 (fo a1 Y W)).1) (some (3,none)),.dead,.mi (some 1) (((fJ a0 (fo a1 Y W)).1).length) E O,.row .holding V]⟩) (fF a0 a1 Y W) (oa a0 a1 Y W) ((fJ a0 (fo a1 Y W)).1) ([]) ((·.elim)) ((·.elim)) (λV=>⟨[(8,.os 4)],[.dead,.dead,.dead,.dead,.row .holding V]⟩) st)else none),?_,?_⟩
 ·unfold ae f157;simp only[ak,true_and,and_true]
  ·refine OT (fg .pq,fg .int) 3 mixed aB hG kr (λ_=>rfl) λE O V hp0=>⟨L0,ag _,?_⟩
   ·by_cases X:E=[]
    subst X;exact adp (jl [0,1,2,3,7]) (jl [0,1,2,3,4])
    ·simp only[go_sem,X];intro j hj0;obtain⟨asO,hq0⟩:=hp0 j hj0;unfold oa at hq0;all_goals exact fU (jl [0,1,2,3,7]) (jl [0,1,2,3,4])
 unfold ae f157;exact akG
@[go_sem] def DE (x:Claim):List SV:=[.agg (cellsOf .W2 x)]
@[go_sem] def JO:m0:=(pD .al λd=>(pR .M1 λa=>(pI λb=>(pI λc=>(pE (.det True (.fn 156 [] [.ep (cellsOf .al d) 0,.ep [.rs .M1 a] 0,.ep [.i b] 0,.ep [.i c] 0])))))))
theorem HX:X1 prog 100 JO:=by
 have hG:=mG Y1 Y1;refine fN hG f100 [.o] (ax λd=>(bG λE=>(aG λhour=>(aG λknown=>(am (λO=>?_))))));refine⟨nbl rfl,L0,ag _,?_⟩;unfold ae f100;simp only[go_sem,sq,sr,Nat.reduceBEq,Nat.reduceLeDiff,Nat.reduceAdd,Nat.reduceSub,Nat.reduceMul]
@[go_sem] def jL (d:ah)(f:List bn)(a g:Int)(h:Nat)(e:List Claim):Empty⊕(List Claim):=letI b:=((aD d f a g).1).getD h default;letI c:=d.bh.getD (Int.toNat (b.right)) default;(bif(((decide (a<c.since)) ||(decide (a > c.to))) ||(decide ((Int.tmod (i64.wrap (a - c.since)) (c.every))>=c.length)))then .inr e else .inr (e++[({ right:=b.right,dd:=b.dd,hour:=a,bl:=b.bl,arM:=b.arM}:Claim)]))
def pj (d:ah)(g:List bn)(b h:Int)(i:List (List SV))(j:Nat)(k:List Claim):Prop:=letI a:=((aD d g b h).1).getD j default;letI c:=d.bh.getD (Int.toNat (a.right)) default;letI e:=decide (b<c.since);letI f:=decide (b > c.to);((0<=a.right/\a.right< (d.bh.length:Int))/\(((e||f)=false->c.every≠0)/\(((e||f) ||(decide ((Int.tmod (i64.wrap (b - c.since)) (c.every))>=c.length)))=false->(i[k.length]? =some (DE ({ right:=a.right,dd:=a.dd,hour:=b,bl:=a.bl,arM:=a.arM}:Claim))))))
def gf (d:ah)(a:List bn)(b c:Int):List Claim:=(match aj (jL d a b c) (((aD d a b c).1).length) 0 ([]:List Claim)with| .inl x=>x.elim| .inr e=>e)
def l8 (d:ah)(a:List bn)(b c:Int)(f:List (List SV)):Prop:=letI e:=(aD d a b c).1;letI g:=jL d a b c;((rY d a b c)/\(e.length<=aI->(okI g (pj d a b c f) (e.length) 0 ([]:List Claim)/\(∀ l5,aj g (e.length) 0 ([]:List Claim)=.inr l5->(f.length=l5.length)))))
theorem DF (d:ah)(O:List bn)(hour known:Int)(E:List (List SV))(hp:l8 d O hour known E):AQ prog 156 (λy=>[y,.ep (cellsOf .al d) 0,.ep [.rs .M1 O] 0,.ep [.i hour] 0,.ep [.i known] 0]) [] E:=by
 unfold l8 at hp;refine Df mixed aB (fn:=f156) (c:=ae f156) kr kr kr kr rfl (n:=0) rfl (G:=λY=>AS [(157,λl=>Ay (Bp [.st .al,.sl .M1,.o,.o] l))] [] (ER E Y)) (λY hy=>?_) (λargs w=>by kernel_rfl);have hG:=mGY (cn [.st .al,.sl .M1,.o,.o] HW Y1) Y1 hy;refine⟨hG,nbl rfl,(λid st=>bif Nat.beq id 0 then some (LCY (ρ:=Empty) (σ:=(List Claim)) 2 [] [0,1] (λW V=>⟨[(0,.os 0),(1,.ep (cellsOf .al d) 0),(3,.ep [.i hour] 0),(19,.os 1),(20,.i (((aD d O hour known).1).length:Int)),(21,.i W)],[.ab (Y.1 (V.length+1)),.row .holding ((aD d O hour known).1)]⟩) (jL d O hour known) (pj d O hour known E) (((aD d O hour known).1).length) ([]:List Claim) (((aD d O hour known).1).length<=aI) ((·.elim)) ((·.elim)) ⟨[],[.ab (Y.1 0),.dead]⟩ st)else none),?_,?_⟩;unfold ae f156;simp only[ak,true_and,and_true];refine uw mixed aB hG kr (λ_=>rfl) (((aD d O hour known).1).length:Int) rfl fO (λhb0 W V asO X hw hc=>⟨L0,ag _,?_⟩) (λhb0 V hc=>?_);unfold pj at X;try simp only[hw,aol]at X
 exact ql (jl [0,1]);exact qm (jl [0,1]);unfold ae f156;exact O_ (jl [0])
end Go.Sx
end
section
namespace Go.Proofs
open Go.Shelf Go.Sx
def Tryz.ato:Go.Shelf.Ren:=⟨λ|6=>105|15=>133|14=>162|28=>199|29=>200|20=>235|21=>236|22=>237|23=>238|24=>239|25=>240|26=>241|27=>242|46=>287|47=>260|48=>261|49=>288|50=>289|57=>327|n=>n,λ|22=>115|24=>119|25=>186|3=>3|39=>229|0=>0|53=>294|55=>296|4=>4|46=>288|45=>287|50=>267|5=>5|9=>9|66=>342|70=>60|76=>375|77=>376|n=>n,λ|n=>n⟩
theorem Tryz.atX:Go.Proofs.SlLaysF0.n6 Tryz.prog Tryz.ato:=⟨kr,⟨Tryz.f105.name,by decide,kr⟩,⟨Tryz.f162.name,by decide,kr⟩,kr,⟨Tryz.f235.name,by decide,kr⟩,⟨Tryz.f236.name,by decide,kr⟩,⟨Tryz.f237.name,by decide,kr⟩,⟨Tryz.f238.name,by decide,kr⟩,⟨Tryz.f239.name,by decide,kr⟩,⟨Tryz.f240.name,by decide,kr⟩,⟨Tryz.f241.name,by decide,kr⟩,⟨Tryz.f242.name,by decide,kr⟩,kr,kr,⟨Tryz.f287.name,by decide,kr⟩,kr,kr,⟨Tryz.f288.name,by decide,kr⟩,⟨Tryz.f289.name,by decide,kr⟩,⟨Tryz.f327.name,by decide,kr⟩,kr,λ_=>kr,λ_=>kr,λ_=>kr,kr,λ_=>kr,λ_=>kr,λ_=>kr,kr,λ_=>kr,λ_=>kr,λ_=>kr,kr,λ_=>kr,λ_=>kr,λ_=>kr,kr,λ_=>kr,λ_=>kr,λ_=>kr,kr,λ_=>kr,λ_=>kr,λ_=>kr,kr,λ_=>kr,λ_=>kr,λ_=>kr,kr,λ_=>kr,λ_=>kr,λ_=>kr,kr,λ_=>kr,λ_=>kr,λ_=>kr,kr,λ_=>kr,λ_=>kr,λ_=>kr,kr,λ_=>kr,λ_=>kr,λ_=>kr,kr,λ_=>kr,λ_=>kr,λ_=>kr,kr,λ_=>kr,λ_=>kr,λ_=>kr,kr,λ_=>kr,λ_=>kr,λ_=>kr,kr,λ_=>kr,λ_=>kr,λ_=>kr,kr,λ_=>kr,λ_=>kr,λ_=>kr,kr,λ_=>kr,λ_=>kr,λ_=>kr⟩
end Go.Proofs
end
section
namespace Go.Sx
open Go.Lib Go.Proofs Go.RowKit Go.Shelf Go.Sort Tryz
noncomputable def Ev:List SV->List Ob->Option arV:=jR .arx 106 [] gw
@[go_sem]def YI {a:List arv}:Ev [.os 0,.fn 106 [] []] [.row .arx a]=some (fM (apart gw a) (.tup []) [.row .arx (srt gw a)]):=oF
def PH:yQ .arx:=λx s E=>by
 simp only[cellsOf,aoD,apn,or_false]at E;rcases E with rfl|rfl|rfl|rfl|rfl|rfl;all_goals exact⟨_,rfl,rfl⟩
def KM (x y:arv):y6 (.agg (cellsOf .arx x):: .agg (cellsOf .arx y)::[])=some (.det True (.i (gw x y))):=by
 simp only[go_sem,Nat.reduceBEq]
def MS:arT prog 105 Ev:=
 su (k:=.arx) Tryz.atX (λw=>by kernel_rfl) (λw=>by kernel_rfl) PH (by decide) (g:=106) (caps:=[]) Fa (cf:=gw) KM KL (λs E=>by cases E) ⟨default,default,KM _ _⟩
end Go.Sx
end
section
namespace Go.Sx
open Go.Proofs Tryz
open IntKind (i64)
@[go_sem] def gJ (b:ah)(g:List bn)(h:Int)(f:List arv×Int)(a:Claim)(c:List arv):Empty⊕(List arv):=letI d:=(nK b ((b.zs.getD (Int.toNat a.dd) default).reach)).1;letI e:=dZ d (cV b f.2) a;(bif(decide (e>=0))then .inr (c++([({ W2:=a,reach:=(d.getD (Int.toNat e) 0)}:arv)]))else .inr (c++([({ W2:=a,reach:=(-1)}:arv)])))
def jn (b:ah)(h:List bn)(i:Int)(g:List arv×Int)(a:Claim)(e:List arv):Prop:=letI f:=(b.zs.getD (Int.toNat a.dd) default).reach;letI d:=(nK b f).1;letI c:=dZ d (cV b g.2) a;((0<=a.dd/\a.dd< (b.zs.length:Int))/\((rX b f)/\(((decide (c>=0))=true->((0<=c/\c< (d.length:Int))/\((e++([({ W2:=a,reach:=(d.getD (Int.toNat c) 0)}:arv)])).length*48<=dT)))/\((decide (c>=0))=false->((e++([({ W2:=a,reach:=(-1)}:arv)])).length*48<=dT)))))
@[go_sem] def kR (b:ah)(c:List bn)(e d:Int)(g:Nat)(a:List arv×Int):(List arv)⊕(List arv×Int):=(bif(decide (a.2<=e))then(match cG (gJ b c d a) (gf b c a.2 d) a.1 with| .inl x=>x.elim| .inr f=>.inr (f,(i64.wrap (a.2+1))))else .inl a.1)
def l9 (b:ah)(c:List bn)(e d:Int)(f:Nat)(a:List arv×Int):Prop:=((decide (a.2<=e))=true->((l8 b c a.2 d ((gf b c a.2 d).map DE))/\okL (gJ b c d a) (jn b c d a) (gf b c a.2 d) a.1))
def fG (a:ah)(e:List bn)(b c d:Int):List arv×Int:=letI f:=ba a e;(bif(f !=0)then([],f)else(bif(((((decide (b<0)) ||(decide (b > c))) ||(decide (c>=a.hours))) ||(decide (d<0))) ||(decide (d > 1048576)))then([],1)else(bif(decide ((i64.wrap ((i64.wrap ((i64.wrap (c - b))+1))*(a.bh.length:Int))) > 4096))then([],2)else(match aj (kR a e c d) 4098 0 ([],b)with| .inl g=>((srt gw g),0) | .inr h=>default))))
def qx (a:ah)(d:List bn)(b c e:Int):Prop:=letI f:=kR a d c e;((ll a d)/\(((ba a d) !=0)=false->((((((decide (b<0)) ||(decide (b > c))) ||(decide (c>=a.hours))) ||(decide (e<0))) ||(decide (e > 1048576)))=false->(a.bh.length<=aI->((decide ((i64.wrap ((i64.wrap ((i64.wrap (c - b))+1))*(a.bh.length:Int))) > 4096))=false->(okI f (l9 a d c e) 4098 0 ([],b)/\(∀ z_,aj f 4098 0 ([],b)≠ .inr z_)/\(∀ u0,aj f 4098 0 ([],b)=.inl u0->(apart gw u0))))))))
@[go_sem] def MT:m0:=(pD .al λa=>(pR .M1 λb=>(pI λc=>(pI λd=>(pI λe=>(pE (.det (qx a b c d e) (.tup [.nw .arx ((fG a b c d e).1),.i ((fG a b c d e).2)]))))))))
variable {p:Prop}
def akH(h:p:=by simp only[go_sem,e1_0,e1_1,e1_2,e1_3,e1_4,e1_5,e1_6,e1_7]):p:=h
def akI{l0 l1:List Nat}(a0:JL l0)(a1:JL l1)(h:JL l0->JL l1->p:=by intro ja jb;simp only[go_sem,gH,gJ,psT,DE,aoJ,aos];all_goals exact fU ja jb):p:=h a0 a1
def adq{l0 l1:List Nat}(a0:JL l0)(a1:JL l1)(h:JL l0->JL l1->p:=by intro ja jb;simp only[go_sem,gH];all_goals exact fU ja jb):p:=h a0 a1
def akJ(h:p:=by simp only[go_sem,gH];all_goals exact cl):p:=h
theorem JP:X1 prog 56 MT:=by
 have hG:=mG (cn [.st .al,.sl .M1] vC (cn [.st .al,.o] E9 (cn [.st .al,.sl .M1,.o,.o] HX (cn [.st .al,.o] HQ (cn [.sl .int,.o] s6 Y1))))) (co MS Y1);refine fW hG f56 [(.cell 10 0,.arx)] (ax λa0=>(bG λa1=>(aG λa2=>(aG λX=>(aG λO=>(am (λhp=>?_)))))));dsimp only[an]at hp;unfold qx at hp;refine⟨nbl rfl,(λid st=>bif Nat.beq id 0 then some (LCV (ρ:=(List arv)) (σ:=(List arv×Int)) 2 [.cell 1 0 (.row .arx ([]))] [0,1,2] (λk_0 E=>⟨[(1,.rs .M1 a1),(3,.i X),(4,.i O),(5,.ptr 0 0),(10,.ptr 1 0),(12,.i E.2)],[.cells (cellsOf .al a0),.cells [.os 2],.row .arx E.1]⟩) (kR a0 a1 X O) (l9 a0 a1 X O) 4098 ([],a2) (λ_=>.normal) (λW=>⟨[(10,.ptr 1 0)],[.dead,.cells [.os 2],.row .arx W]⟩) st)else none),?_,?_⟩
 ·unfold ae f56;simp only[ak,true_and,and_true]
  ·refine fw mixed aB hG kr (λ_=>rfl) λk_0 E hq0=>⟨(λid st=>bif Nat.beq id 2 then some (LC (ρ:=Empty) (σ:=List arv) (lk 1 st.t=.rs .M1 a1/\lk 3 st.t=.i X/\lk 4 st.t=.i O/\lk 5 st.t=.ptr 0 0/\lk 10 st.t=.ptr 1 0/\lk 12 st.t=.i E.2/\lk 13 st.t=.ptr 6 0/\lk 68 st.t=.fn 156 [] [.ep (cellsOf .al a0) 0,.ep [.rs .M1 a1] 0,.ep [.i E.2] 0,.ep [.i O] 0]/\st.h=[.cells (cellsOf .al a0),.cells [.os 2],.row .arx E.1,.mp .int .int ((cV a0 E.2).asV) none,.mp .art .bool ((cV a0 E.2).owned) none,.mp .art .bool ((cV a0 E.2).asM) none,.cells [.os 3,.os 4,.os 5]]/\l8 a0 a1 E.2 O ((gf a0 a1 E.2 O).map DE)/\okL (gJ a0 a1 O E) (jn a0 a1 O E) (gf a0 a1 E.2 O) E.1) (cG (gJ a0 a1 O E) (gf a0 a1 E.2 O) E.1) (λx=>x.elim) (λx=>x.elim) (λV=>⟨[(1,.rs .M1 a1),(3,.i X),(4,.i O),(5,.ptr 0 0),(10,.ptr 1 0),(12,.i E.2),(13,.ptr 6 0)],[.cells (cellsOf .al a0),.cells [.os 7],.dead,.mp .int .int ((cV a0 E.2).asV) none,.mp .art .bool ((cV a0 E.2).owned) none,.mp .art .bool ((cV a0 E.2).asM) none,.cells [.os 3,.os 4,.os 5],.row .arx V]⟩))else none),?_,?_⟩
   ·simp only[ak,true_and,and_true]
    ·refine pw mixed aB hG (by decide) (by decide) kr kr λst lc hC hp=>?_;simp only[go_sem,Nat.reduceBEq,aoo]at hC;subst hC;obtain⟨t,h⟩:=st;dsimp only[LC]at hp;obtain⟨e1_0,e1_1,e1_2,e1_3,e1_4,e1_5,e1_6,e1_7,rfl,hb1,Y⟩:=hp;refine⟨156,[.ep (cellsOf .al a0) 0,.ep [.rs .M1 a1] 0,.ep [.i E.2] 0,.ep [.i O] 0],Claim,_,_,(gf a0 a1 E.2 O),DE,(gJ a0 a1 O E),(jn a0 a1 O E),_,E.1,_,_,_,[(1,.rs .M1 a1),(3,.i X),(4,.i O),(5,.ptr 0 0),(10,.ptr 1 0),(12,.i E.2),(13,.ptr 6 0)],(λV=>[.cells (cellsOf .al a0),.cells [.os 7],.dead,.mp .int .int ((cV a0 E.2).asV) none,.mp .art .bool ((cV a0 E.2).owned) none,.mp .art .bool ((cV a0 E.2).asM) none,.cells [.os 3,.os 4,.os 5],.row .arx V]),(λx=>x.elim),[0,1,2,3,4,5,6,2],?_,rfl,Y,nbl rfl,?_,DF a0 a1 E.2 O _ hb1,λz_1 V hq1=>⟨rfl,L0,λl=>?_,λl=>?_,?_⟩,λV=>?_,λy=>?_⟩;exact akH
     ·simp only[go_sem,sp,kg,aoF,apf,aos,aoC,aoZ,e1_0,e1_1,e1_2,e1_3,e1_4,e1_5,e1_6,e1_7];all_goals (first|done|decide|(repeat' (first|refine And.intro ?_ ?_|rfl|decide)))
     simp only[ak,and_self,true_and,and_true];simp only[ak,and_self,true_and,and_true];unfold jn at hq1;exact akI (jl [0,1,2,3,4,5,6,12]) (jl [0,1,2,3,4,5,6,7]);exact adq (jl [0,1,2,3,4,5,6,12]) (jl [0,1,2,3,4,5,6,7]);exact adq (jl [0,1,2,3,4,5,6,12]) (jl [0,1,2,3,4,5,6,7])
   unfold l9 at hq0;exact sI (jl [0,1,7]) (jl [0,1,2])
 unfold ae f56;try unfold fG
 exact akJ
@[go_sem] def qy (d:ah)(a:List bn)(b c e:Int)(f:Nat)(g:List Claim):Empty⊕(List Claim):=(bif(decide ((((fG d a b c e).1).getD f default).reach<0))then .inr (g++([(((fG d a b c e).1).getD f default).W2]))else .inr g)
def uK (d:ah)(a:List bn)(b c e:Int)(f:Nat)(g:List Claim):Prop:=((decide ((((fG d a b c e).1).getD f default).reach<0))=true->((g++([(((fG d a b c e).1).getD f default).W2])).length*40<=dT))
def aN (d:ah)(b:List bn)(c e f:Int):List Claim×Int:=letI a:=fG d b c e f;(bif(a.2 !=0)then([],a.2)else(match aj (qy d b c e f) ((a.1).length) 0 ([])with| .inl x=>x.elim| .inr g=>(bif(decide ((g.length:Int) > 4096))then([],2)else(g,0))))
def sN (d:ah)(a:List bn)(b c e:Int):Prop:=letI f:=fG d a b c e;((qx d a b c e)/\((f.2 !=0)=false->((f.1).length<=aI->okI (qy d a b c e) (uK d a b c e) ((f.1).length) 0 ([]))))
@[go_sem] def PK:m0:=(pD .al λd=>(pR .M1 λa=>(pI λb=>(pI λc=>(pI λe=>(pE (.det (sN d a b c e) (.tup [.rs .W2 ((aN d a b c e).1),.i ((aN d a b c e).2)]))))))))
theorem Ci:X1 prog 17 PK:=by
 have hG:=mG (cn [.st .al,.sl .M1,.o,.o,.o] JP Y1) Y1;refine fN hG f17 [.sl .W2,.o] (ax λd=>(bG λO=>(aG λfr=>(aG λto=>(aG λknown=>(am (λX=>?_)))))));dsimp only[an]at X;unfold sN at X;refine⟨nbl rfl,(λid st=>bif Nat.beq id 0 then some (LCR (ρ:=Empty) (σ:=(List Claim)) 2 [.slot 10 (.row .W2 ([]))] [0,1,2] (λV E=>⟨[(10,.os 2),(27,.os 1),(28,.i (((fG d O fr to known).1).length:Int)),(29,.i V)],[.dead,.row .arx ((fG d O fr to known).1),.row .W2 E]⟩) (qy d O fr to known) (uK d O fr to known) (((fG d O fr to known).1).length) ([]) (((fG d O fr to known).1).length<=aI) ((·.elim)) ((·.elim)) st)else none),?_,?_⟩;unfold ae f17;simp only[ak,true_and,and_true];refine bu mixed aB hG kr (λ_=>rfl) (((fG d O fr to known).1).length:Int) rfl fO (λhb0 V E Y W hw hc=>⟨L0,ag _,?_⟩) (λhb0 E hc=>?_);unfold uK at W;try simp only[hw,aol]at W
 exact lm (jl [0,1,5]) (jl [0,1,2]);exact ln (jl [0,1,5]) (jl [0,1,2]);unfold ae f17;try unfold aN
 exact zq2
variable {n:Int}
theorem TP{d:Int}(hd:1<=d)(E:d<=1073741824)(h1: -1152921504606846976<=n)(h2:n<=1152921504606846976):nh n d=n / d:=by
 unfold nh;have O:Int.tmod (Int.tmod n d+d) d=n % d:=by
  have a1: -d<Int.tmod n d:=aqr n g5;rw[apP g5,arp];rw[aq0];split
  simp_all;have:n % d - (d.natAbs:Int)=n % d+d*(-1):=g5
  simp_all
 have a1: -d<Int.tmod n d:=aqr n g5;have Y:Int.tmod n d<d:=arq n g5;rw[aw (by omega: -9223372036854775808<=Int.tmod n d+d) g5,O];have b1:=aqm n (by omega:d≠0);have X:=ap6 n (by omega:0<d);rw[aw (by omega: -9223372036854775808<=n - n % d) g5];have V:n - n % d=d*(n / d):=by have:=ap9 n d;omega
 rw[V,aqS _ g5];have c1:n / d<=1152921504606846976:=by
  have:=ap4 (by omega:0<d) h2;have:=aqF (b:=d) (by omega:(0:Int)<=1152921504606846976);omega
 have W: -1152921504606846976<=n / d:=by
  rw[apH g5];omega
 exact aw g5 g5
def ma {κ υ:Type}(l:List (κ×υ)):List κ:=l.map λp=>p.1
theorem KN {κ υ:Type}[DecidableEq κ]:∀ {l:List (κ×υ)} {x:κ},x ∉ ma l->jy l x=none
 | [],_,_=>rfl
 |(a,b)::r,x,h=>by
  unfold jy;rw[if_neg (λe=>h (by simp[ma,e]))];exact KN λE=>h (by grind [ma])
theorem HY {κ υ:Type}[DecidableEq κ]:∀ {l:List (κ×υ)},(ma l).Nodup->∀ {x:κ} {y:υ},jy l x=some y↔(x,y)∈l
 | [],_,x,y=>by simp[jy]
 |(a,b)::r,h,x,y=>by
  have h':=ao2.1 h;unfold jy;by_cases e:x=a
  grind
  rw[if_neg e,HY h'.2];grind
theorem wG {κ υ:Type}[DecidableEq κ](x:κ)(y:υ):∀ (l:List (κ×υ)),(ma l).Nodup->(ma (u5 l x y)).Nodup/\∀ z,z∈ma (u5 l x y)->z=x\/z∈ma l
 | [],_=>by simp[u5,ma]
 |(a,b)::r,h=>by
  have h':=ao2.1 h;unfold u5;by_cases e:x=a
  subst e;rw[if_pos rfl];exact⟨h,λz hz=>.inr hz⟩;rw[if_neg e];obtain⟨V,E⟩:=wG x y r h'.2;refine⟨ao2.2 ⟨λO=>?_,V⟩,λz hz=>?_⟩;rcases E _ O with h3|h3;grind
  exact h'.1 h3;rcases aoD.1 hz with rfl|hz;exact .inr aow;rcases E z hz with h3|h3;exact .inl h3;exact .inr (aor _ h3)
theorem DG {κ υ:Type}[DecidableEq κ](x:κ):∀ (l:List (κ×υ)),(ma l).Nodup->(ma (CT l x)).Nodup/\(∀ z,z∈ma (CT l x)->z∈ma l)/\∀ z,jy (CT l x) z=if z=x then none else jy l z
 | [],_=>by simp[CT,ma,jy]
 |(a,b)::r,h=>by
  have h':=ao2.1 h;unfold CT;by_cases e:x=a
  subst e;rw[if_pos rfl];refine⟨h'.2,λz hz=>aor _ hz,λz=>?_⟩;by_cases hz:z=x
  subst hz;rw[if_pos rfl];exact KN h'.1;simp_all [jy];rw[if_neg e];obtain⟨W,E,O⟩:=DG x r h'.2;refine⟨ao2.2 ⟨λV=>h'.1 (E _ V),W⟩,λz hz=>?_,λz=>?_⟩;rcases aoD.1 hz with rfl|hz;exact aow;exact aor _ (E z hz);simp only[jy,O];grind
def tot:Nat->(Int->Int)->Int
 |0,_=>0|n+1,g=>tot n g+g (n:Int)
def kS (g:Int->Int)(f v:Int):Int->Int:=λx=>if x=f then v else g x
theorem PM {g h:Int->Int}:∀ {n:Nat},(∀ f:Int,0<=f->f< (n:Int)->g f=h f)->tot n g=tot n h
 |0,_=>rfl
 |n+1,e=>by unfold tot;rw[PM (n:=n) λf h1 h2=>e f h1 g5,e n g5 g5]
theorem xv (g:Int->Int)(f v:Int):∀ (n:Nat),0<=f->f< (n:Int)->tot n (kS g f v)=tot n g - g f+v
 |0,h0,h1=>g5
 |n+1,h0,h1=>by
  unfold tot;by_cases h:f=(n:Int)
  subst h;rw[PM (g:=kS g n v) (h:=g) λx _ E=>by unfold kS;omega];simp_all [kS];rw[xv g f v n h0 g5];unfold kS;omega
theorem YJ {g:Int->Int}(h:∀ f,0<=g f):∀ n,0<=tot n g
 |0=>ao7 _
 |n+1=>by have:=YJ h n;grind [tot]
theorem HZ {g:Int->Int}(h:∀ f,0<=g f):∀ (n:Nat) (f:Int),0<=f->f< (n:Int)->g f<=tot n g
 |0,f,h0,h1=>g5
 |n+1,f,h0,h1=>by
  unfold tot;have h2:=YJ h n;by_cases e:f=(n:Int)
  grind
  have:=HZ h n f h0 g5;grind
structure Good (F:Nat)(L:Int)(g:Int->Int):Prop where
 nn:∀ f,0<=g f
 sup:∀ f,g f≠0->0<=f/\f< (F:Int)
 tot:tot F g<=L
variable {F:Nat}{L:Int}{g:Int->Int}
theorem Good.le(h:Good F L g)(E:0<=L)(f:Int):g f<=L:=by
 by_cases e:g f=0
 omega;obtain⟨a,b⟩:=h.sup f e;exact aq4 (HZ h.nn F f a b) h.tot
variable {M:Int}
theorem Good.put(h:Good F L g){f v:Int}(W:0<=f)(h1:f< (F:Int))(O:0<=v)(V:Go.Sx.tot F g - g f+v<=M):Good F M (kS g f v) where
 nn:=λx=>by unfold kS;split;exact O;exact h.nn x
 sup:=λx E=>by
  unfold kS at E;split at E
  omega;exact h.sup x E
 tot:=by grind [xv]
def loP (p:Part)(n:Int):Int:=p.share.n*n / p.share.d
variable {a:api}
theorem YK(h:ar5 a)(h0:0<=n)(h1:n<=1073741824):(fB a n).1=a.n*n / a.d/\(fB a n).2.1= -(-(a.n*n) / a.d)/\(fB a n).2.2=0:=by
 have X: -1152921504606846976<=a.n*n/\a.n*n<=1152921504606846976:=by
  have:(a.n*n).natAbs<=1073741824*1073741824:=by rw[ard];exact aqz (by have:=h.n0;have:=h.n;omega) g5
  omega
 have hd:=h.d1;have E:=h.d;have V:=h.n0;have O:=h.n;unfold fB;rw[(iw a).2 h];have e:(decide (n< -1073741824) ||decide (n > 1073741824))=false:=by simp;omega
 simp only[bne_self_eq_false,cond_false,e];have W: -a.n*n= -(a.n*n):=Int.neg_mul _ _;rw[aw (n:=a.n*n) g5 g5,aw (n:=0 - a.n) g5 g5,show 0 - a.n= -a.n by omega,W,aw (n:= -(a.n*n)) g5 g5,TP hd E g5 g5,TP hd E g5 g5];refine⟨rfl,?_,trivial⟩;have c1: -(a.n*n) / a.d<=1152921504606846976:=by
  have:=ap4 (by omega:0<a.d) (by omega: -(a.n*n)<=1152921504606846976);have:=aqF (b:=a.d) (by omega:(0:Int)<=1152921504606846976);omega
 have Y: -1152921504606846976<= -(a.n*n) / a.d:=by
  rw[apH g5];omega
 grind [aw]
theorem PN{p:Part}(h:ar5 p.share)(O:0<p.share.n)(E:0<=n):0<=loP p n:=by
 unfold loP;exact Int.ediv_nonneg (aqd g5 E) (by have:=h.d1;omega)
theorem YL {x d:Rat}(hd:0<d)(h:0<=x*d):0<=x:=by
 rcases aq6 (0<=x)with h1|h1;exact h1;have h2:0< -x:=g6
 have E:=Rat.mul_pos h2 hd;grind
theorem afY {p:Part}(h:ar5 p.share)(n:Int):((loP p n:Int):Rat)<=rv p.share*(n:Rat)/\rv p.share*(n:Rat)<=((loP p n:Int):Rat)+1:=by
 have hd:=h.d1;have V:(0:Rat) < (p.share.d:Rat):=by exact_mod_cast (by omega:(0:Int) <p.share.d)
 have dn:(p.share.d:Rat)≠0:=sG g5;have Y:rv p.share*(p.share.d:Rat)=(p.share.n:Rat):=by grind [rv]
 have q:=ap9 (p.share.n*n) p.share.d;have q1:=aqm (p.share.n*n) (by omega:p.share.d≠0);have q2:=ap6 (p.share.n*n) (by omega:0<p.share.d);have W:p.share.d*loP p n<=p.share.n*n:=by unfold loP;omega
 have X:p.share.n*n<=p.share.d*loP p n+p.share.d:=by unfold loP;omega
 have O:(p.share.d:Rat)*((loP p n:Int):Rat)<=(p.share.n:Rat)*(n:Rat):=by exact_mod_cast W
 have E:(p.share.n:Rat)*(n:Rat)<=(p.share.d:Rat)*((loP p n:Int):Rat)+(p.share.d:Rat):=by exact_mod_cast X
 rw[<-Y]at O E;generalize ((loP p n:Int):Rat)=lo at *;generalize (n:Rat)=m at *;generalize rv p.share=v at *;generalize (p.share.d:Rat)=d at *;constructor
 have:=YL (x:=v*m - lo) V g6;grind
 have:=YL (x:=lo+1 - v*m) V g6;grind
def eM (l:List Part)(n:Int):Int:=(l.map λp=>loP p n).sum
variable {l:List Part}
theorem afZ(h:∀ p∈l,ar5 p.share)(n:Int):((eM l n:Int):Rat)<=Dy l*(n:Rat)/\Dy l*(n:Rat)<=((eM l n+(l.length:Int):Int):Rat):=by
 induction l with
 |nil=>simp[eM,Dy,Rat.zero_mul]
 |cons p r O=>
  obtain⟨i1,Y⟩:=O λq E=>h q (aor _ E);obtain⟨j1,X⟩:=afY (h p aow) n;have e:eM (p::r) n=loP p n+eM r n:=by simp[eM]
  have V:((eM (p::r) n:Int):Rat)=((loP p n:Int):Rat)+((eM r n:Int):Rat):=by simp_all
  have W:((eM (p::r) n+((p::r).length:Int):Int):Rat)=(((loP p n:Int):Rat)+1)+((eM r n+(r.length:Int):Int):Rat):=by
   have:eM (p::r) n+((p::r).length:Int)=(loP p n+1)+(eM r n+(r.length:Int)):=g6
   simp_all
  rw[V,W];simp only[Dy];grind
theorem MU{d:ah}(h:asT d l)(n:Int):eM l n<=n/\n<=eM l n+(l.length:Int):=by
 obtain⟨h1,h2⟩:=afZ (λp E=>(h.part p E).share) n;rw[h.sum,Rat.one_mul]at h1 h2;exact⟨by exact_mod_cast h1,by exact_mod_cast h2⟩
theorem YM {p q:Nat}(E:0<q):Int.tmod (-(p:Int)) (-(q:Int))= -((p % q:Nat):Int):=by
 simp_all [apP]
theorem H0 (a1:Int):∀ (n i:Nat) (p q:Nat),q<n->∃ a b,aj (mm a1) n i (-(p:Int),-(q:Int))=.inl (a,b)/\((b= -1/\Nat.gcd p q=1)\/(b=0/\a= -((Nat.gcd p q:Nat):Int)))
 |0,_,_,_,h=>g5
 |n+1,i,p,q,h=>by
  simp only[aj,mm];by_cases h1:1<q
  rw[decide_eq_true g5];simp only[cond_true];rw[YM g5];have hlt:p % q<q:=aqq _ g5;obtain⟨a,b,e,h2⟩:=H0 a1 n (i+1) q (p % q) g5;grind [Nat.gcd_comm,Nat.gcd_rec]
  rw[decide_eq_false g5];simp only[cond_false];refine⟨_,_,rfl,?_⟩;by_cases E:q=0
  grind
  have:q=1:=g5
  simp_all
theorem Vn{d:Int}(h0: -4611686018427387904<=n)(h1:n<=4611686018427387904)(h2: -4611686018427387904<=d)(h3:d<=4611686018427387904):qp n d/\rq n d=mkR n d:=by
 unfold qp rq;by_cases hd:d=0
 grind [mkR]
 have e:(d==0)=false:=g6
 rw[e];simp only[cond_false];have ex:(bif(decide (n > 0))then(i64.wrap (0 - n))else n)= -((n.natAbs:Nat):Int):=by
  by_cases h:n > 0
  rw[decide_eq_true h,cond_true,aw g5 g5];omega;grind
 have ey:(bif(decide (d > 0))then(i64.wrap (0 - d))else d)= -((d.natAbs:Nat):Int):=by
  by_cases h:d > 0
  rw[decide_eq_true h,cond_true,aw g5 g5];omega;grind
 rw[ex,ey];obtain⟨a,b,er,hr⟩:=H0 d (Int.natAbs d+2) 0 n.natAbs d.natAbs g5;rw[er];have g0:0<Nat.gcd n.natAbs d.natAbs:=aqR _ g5;have E:okI (mm d) (o9 d) (Int.natAbs d+2) 0 (-((n.natAbs:Nat):Int),-((d.natAbs:Nat):Int)):=iA _ _ _ λj s _ _ h=>g6
 simp only;have l1:n.natAbs / Nat.gcd n.natAbs d.natAbs<=n.natAbs:=aqH _ _;have l2:d.natAbs / Nat.gcd n.natAbs d.natAbs<=d.natAbs:=aqH _ _;rcases hr with⟨rfl,X⟩ | ⟨rfl,rfl⟩
 ·
  have t:∀ m:Nat,Int.tdiv (-(m:Int)) (-1)=(m:Int):=λm=>g6
  refine⟨λ_=>⟨E,(λz h=>by cases h),λx W=>g6⟩,?_⟩;unfold mkR;rw[if_neg hd,X,Nat.div_one,Nat.div_one,t,t];simp only[BEq.rfl,cond_true];by_cases O:1073741824<n.natAbs\/1073741824<d.natAbs
  grind
  rw[if_neg O];have V:((decide (-((n.natAbs:Nat):Int) < (-1073741824))) ||(decide (-((d.natAbs:Nat):Int) < (-1073741824))))=false:=by
   grind
  rw[V,aw (n:=((n.natAbs:Nat):Int)) g5 g5,aw (n:=((d.natAbs:Nat):Int)) g5 g5,aw (n:=0 - ((n.natAbs:Nat):Int)) g5 g5];grind
 have t:∀ m:Nat,Int.tdiv (-(m:Int)) (-((Nat.gcd n.natAbs d.natAbs:Nat):Int))=((m / Nat.gcd n.natAbs d.natAbs:Nat):Int):=λm=>by simp_all
 refine⟨λ_=>⟨E,(λz h=>by cases h),λx W=>g6⟩,?_⟩;unfold mkR;rw[if_neg hd,t,t];have Y:((0:Int) == -1)=false:=by decide
 rw[Y];simp only[cond_false];generalize W:n.natAbs / Nat.gcd n.natAbs d.natAbs=x at *;generalize hy:d.natAbs / Nat.gcd n.natAbs d.natAbs=y at *;by_cases O:1073741824<x\/1073741824<y
 rw[if_pos O];have V:((decide (i64.wrap (x:Int) > 1073741824)) ||(decide (i64.wrap (y:Int) > 1073741824)))=true:=by
  rw[aw g5 g5,aw g5 g5,aoN,decide_eq_true_eq,decide_eq_true_eq];omega
 grind
 rw[if_neg O];have V:((-((Nat.gcd n.natAbs d.natAbs:Nat):Int) == -1)&&((decide (-((n.natAbs:Nat):Int) < (-1073741824))) ||(decide (-((d.natAbs:Nat):Int) < (-1073741824)))))=false:=by
  grind
 have e2:((decide (i64.wrap (x:Int) > 1073741824)) ||(decide (i64.wrap (y:Int) > 1073741824)))=false:=by
  grind [aw]
 rw[V,e2,aw (n:=(x:Int)) g5 g5,aw (n:=(y:Int)) g5 g5,aw (n:=0 - (x:Int)) g5 g5];grind
theorem PO (a b:api):sB a b/\t6 a b=iV a b:=by
 rw[RY];unfold sB t6;have V:lO a b=((aY a==0)&&(aY b==0)):=by grind [lO,y3]
 rw[V];by_cases h:aY a=0/\aY b=0
 have O:=(iw a).1 h.1;have E:=(iw b).1 h.2;have m1:=E7 O.n0 O.n E.d1 E.d;have W:=E7 E.n0 E.n O.d1 O.d;have h1:=O.d1;have h2:=O.d;have X:=E7 (a:=a.d) g5 h2 E.d1 E.d;rw[if_pos h,h.1,h.2,aw (n:=a.n*b.d) g5 g5,aw (n:=b.n*a.d) g5 g5,aw (n:=a.d*b.d) g5 g5,aw (n:=a.n*b.d+b.n*a.d) g5 g5];obtain⟨p,e⟩:=Vn (n:=a.n*b.d+b.n*a.d) (d:=a.d*b.d) g5 g5 g5 g5;rw[e];exact⟨⟨RW a b,λ_=>p⟩,rfl⟩;have:((aY a==0)&&(aY b==0))=false:=by
  grind
 rw[if_neg h,this];exact⟨⟨RW a b,(λh=>by cases h)⟩,rfl⟩
theorem YN{d:Int}(hd:1<=d)(W:d<=1073741824)(h1: -1152921504606846976<=n)(h2:n<=1152921504606846976):py n d=n / d:=by
 unfold py;have q:=ap9 n d;have q1:=aqm n (by omega:d≠0);have Y:=ap6 n (by omega:0<d);have c1:n / d<=1152921504606846976:=by
  have:=ap4 (by omega:0<d) h2;have:=aqF (b:=d) (by omega:(0:Int)<=1152921504606846976);omega
 have c2: -1152921504606846976<=n / d:=by
  rw[apH g5];omega
 have V:d.sign=1:=Int.sign_eq_one_of_pos g5;have O:=Int.tdiv_eq_ediv (a:=n) (b:=d);have E:=aq0 (a:=n) (b:=d);by_cases hn:0<=n\/d ∣ n
 rw[if_pos hn]at O E;rw[O,E,decide_eq_false g5,cond_false,aw g5 g5];omega;rw[if_neg hn]at O E;have X:n % d≠0:=λe=>hn (.inr (Int.dvd_of_emod_eq_zero e));rw[O,E,V,decide_eq_true g5,cond_true,aw (n:=n / d+1) g5 g5,aw g5 g5];omega
theorem Sd(h:ar5 a)(V:0<=n)(h1:n<=1073741824):oI a n/\(ib a n).1=a.n*n / a.d:=by
 have O: -1152921504606846976<=a.n*n/\a.n*n<=1152921504606846976:=by
  have:(a.n*n).natAbs<=1073741824*1073741824:=by rw[ard];exact aqz (by have:=h.n0;have:=h.n;omega) g5
  omega
 have hd:=h.d1;have E:=h.d;refine⟨⟨zG a,λ_ _=>⟨⟨g5,g5⟩,⟨g5,g5⟩⟩⟩,?_⟩;unfold ib;rw[(t7 a).2 h];have e:(decide (n< -1073741824) ||decide (n > 1073741824))=false:=by simp;omega
 simp only[aoH,cond_false,e];grind [aw,YN]
theorem H1 {ρ ρ' σ σ':Type}{f:Nat->σ->ρ⊕σ}{g:Nat->σ'->ρ'⊕σ'}(R:Nat->σ->σ'->Prop):∀ (n i:Nat) (s:σ) (t:σ'),R i s t->(∀ j s t,i<=j->j<i+n->R j s t->(∃ a b,f j s=.inl a/\g j t=.inl b)\/∃ s' t',f j s=.inr s'/\g j t=.inr t'/\R (j+1) s' t')->
  (∃ a b,aj f n i s=.inl a/\aj g n i t=.inl b)\/∃ s' t',aj f n i s=.inr s'/\aj g n i t=.inr t'/\R (i+n) s' t'
 |0,i,s,t,h,_=>.inr ⟨s,t,rfl,rfl,h⟩
 |n+1,i,s,t,h,hs=>by
  rcases hs i s t (aom _) g5 h with⟨a,b,E,O⟩ | ⟨s',t',E,O,h'⟩;grind [aj]
  simp only[aj,E,O];have:=H1 R n (i+1) s' t' h' λj s t h1 h2=>hs j s t g5 g5;grind
theorem abN (l:List Part)(k:Nat):aj (lq l k) k 0 ()=.inr ()↔∀ i,i<k->(l.getD i default).dd≠(l.getD k default).dd:=by
 rw[iM];refine forall_congr' λi=>forall_congr' λ_=>?_;unfold lq;grind
theorem Vo (l:List Part)(k:Nat)(O:k<=l.length)(f:Int):f∈(l.take k).map (λx=>x.dd)↔∃ i,i<k/\(l.getD i default).dd=f:=by
 rw[apb];constructor
 rintro⟨x,E,rfl⟩;obtain⟨i,hi,rfl⟩:=ao0.1 E;rw[aph]at hi;exact⟨i,g5,g6⟩;rintro⟨i,hi,rfl⟩;refine⟨l.getD i default,?_,rfl⟩;rw[ik l _ g5];exact ao0.2 ⟨i,g6,g6⟩
theorem Vp(h:ar5 a):(a.n==a.d)=((a.n==1)&&(a.d==1)):=by
 rw[ape,aoj,beq_iff_eq,beq_iff_eq,beq_iff_eq];constructor
 intro e;have h1:=h.gcd;rw[e]at h1 |-;have h2:=h.d1;have:a.d.natAbs=a.d.toNat:=g5
 grind
 omega
theorem abO (d:ah)(l:List Part):rU d l:=λO _=>iA _ _ _ λj s _ V E=>⟨λ_=>zG _,λ_=>⟨g6,iA _ _ _ λi s _ hi=>by rw[aol]at hi;exact⟨g5,g5⟩,λ_ _=>(PO _ _).1⟩⟩
variable {d:ah}
theorem YO(hf:d.zs.length<=600)(l:List Part):sJ d l=jS d l:=by
 unfold sJ jS;have X:ar5 { n:=0,d:=1}:=⟨by decide,by decide,by decide,by decide,by decide⟩;have key:=H1 (f:=gM d l) (g:=nD d l) (λj s t=>t=(s.1,s.2.1)/\ar5 { n:=s.1,d:=s.2.1}/\∀ f:Int,aC .int .bool s.2.2 f=decide (f∈(l.take j).map λx=>x.dd)) l.length 0 (0,1,[]) (0,1) ⟨rfl,X,λf=>by rfl⟩ (λj s t _ hj ⟨j1,j2,j3⟩ =>by
  rw[aou]at hj;subst j1;unfold gM nD;rw[aol];have hin:=A0 (l.getD j default).dd (k:=d.zs.length) g5;have hm:=j3 (l.getD j default).dd;have E:=PO { n:=s.1,d:=s.2.1} (l.getD j default).share;have hd:=abN l j;rw[E.2];have htk:=cw l default hj;have htf:=Vo l j g5 (l.getD j default).dd;generalize hp:l.getD j default=p at *;by_cases hA:0<=p.dd/\p.dd< (d.zs.length:Int)
  ·have O:=hin.2 hA;have V:((decide (p.dd<0)) ||(decide (p.dd>=(d.zs.length:Int))))=false:=by
    grind
   rw[O,V,hm];by_cases hC:p.share.n<=0
   grind
   ·rw[decide_eq_false hC];simp only[aoH,apV,apW];by_cases hV:ar5 p.share
    rw[(t7 _).2 hV];simp only[aoH,cond_false];by_cases hB:p.dd∈(l.take j).map λx=>x.dd
    grind
    rw[decide_eq_false hB];simp only[cond_false];have hn:aj (lq l j) j 0 ()=.inr ():=hd.2 λi hi e=>hB (htf.2 ⟨i,hi,e⟩);rw[hn];simp only;cases he:((iV { n:=s.1,d:=s.2.1} p.share).2 !=0)with
    |true=>simp_all
    |false=>
     have he:(iV { n:=s.1,d:=s.2.1} p.share).2=0:=g6
     obtain⟨_,_,a3,_⟩:=Yw (r:=(iV { n:=s.1,d:=s.2.1} p.share).1) (by rw[<-he]);refine .inr ⟨_,_,rfl,rfl,rfl,a3,λf=>?_⟩;rw[pC,htk,apT];grind
    ·have hV2:eY p.share=false:=by
      cases h:eY p.share with
      |true=>exact absurd ((t7 _).1 h) hV|false=>rfl
     simp_all [RY,iw]
  grind)
 by_cases hl:1<=l.length/\l.length<=16
 have e1:((decide ((l.length:Int) <1)) ||(decide ((l.length:Int) > 16)))=false:=by
  grind
 have e2:aU (l.length:Int) 1 16=true:=(xn _ _ _).2 g5;rw[e1,e2];simp only[cond_false,apX];rcases key with⟨a,b,W,Y⟩ | ⟨s,t,W,Y,q3,q4,_⟩;rw[W,Y];rw[W,Y];subst q3;exact Vp q4
 ·have e1:((decide ((l.length:Int) <1)) ||(decide ((l.length:Int) > 16)))=true:=by
   grind
  have e2:aU (l.length:Int) 1 16=false:=by
   cases h:aU (l.length:Int) 1 16 with
   |true=>have:=(xn _ _ _).1 h;omega|false=>rfl
  grind
theorem PS (b:List bn)(n:Int):(nE b n= -1/\∀ y∈b,¬ (y.no=n/\y.kind≠4))\/∃ K y R,b=K++y::R/\nE b n=(K.length:Int)/\y.no=n/\y.kind≠4:=by
 unfold nE;have E:∀ y:bn,((y.no==n)&&(y.kind !=4))=true↔(y.no=n/\y.kind≠4):=λy=>g6
 rcases y5 (step:=uH b n) b default (λy=>(y.no==n)&&(y.kind !=4)) (λk _=>rfl)with⟨e,h⟩ | ⟨K,x,R,h1,e,h2,O⟩ <;>grind
theorem abP(hf:d.zs.length<=600)(hr:d.bh.length<=256){b:List bn}(hb:Asc b)(x:bn):sK d b x=dQ d (wD b) x:=by
 unfold sK dQ;have hh:n_ d x=((aU x.right 0 (i64.wrap ((d.bh.length:Int) - 1)))&&((d.bh.getD (Int.toNat x.right) (default:ar4)).kind==1)&&(aU x.since 0 (i64.wrap ((d.zs.length:Int) - 1)))):=by
  unfold n_;rw[ape];simp only[aoj,decide_eq_true_eq];grind [A0]
 have Y:((decide (x.to>=0))&&(decide (x.to< (d.zs.length:Int))))=aU x.to 0 (i64.wrap ((d.zs.length:Int) - 1)):=by
  rw[ape,A0 _ g5,aoj,decide_eq_true_eq,decide_eq_true_eq]
 have E:(((((((decide (x.no<0)) ||(decide (x.no > 1048576))) ||(decide (x.at_<0))) ||(decide (x.at_ > 4096))) ||(decide (x.known<0))) ||(decide (x.known > 1048576))))=(((!(aU x.no 0 1048576)) ||(!(aU x.at_ 0 4096))) ||(!(aU x.known 0 1048576))):=by
  rw[ape];simp only[aoN,decide_eq_true_eq,aox,<-apK,xn];omega
 rw[E,hh];cases hg:(((!(aU x.no 0 1048576)) ||(!(aU x.at_ 0 4096))) ||(!(aU x.known 0 1048576)))with
 |true=>simp
 |false=>
  simp only[apV,cond_false];unfold ml jU;simp only[aq3,apV,apX];by_cases k1:x.kind=1
  grind
  rw[show(x.kind==1)=false by grind];by_cases k2:x.kind=2
  rw[show(x.kind==2)=true by rw[k2];rfl];simp only[cond_true,cond_false];grind [YO]
  rw[show(x.kind==2)=false by grind];by_cases k3:x.kind=3
  grind
  rw[show(x.kind==3)=false by grind];by_cases W:x.kind=4
  rw[show(x.kind==4)=true by rw[W];rfl];simp only[cond_true,cond_false,Bool.or_true,ark];cases hz:((((x.right==0)&&(x.since==0))&&(x.to==0))&&((x.parts.length:Int) ==0))with
  |false=>simp
  |true=>
   simp only[apX,aoH,cond_false];rw[Po];rcases PS b x.of_ with⟨e,V⟩ | ⟨K,y,R,X,e2,e3,e4⟩;rw[e];simp only[show decide ((-1:Int)>=0)=false by decide,are];grind [Hz]
   have hy:y∈b:=by rw[X];simp
   have O:b.getD (Int.toNat (K.length:Int)) default=y:=g6
   grind [Hz]
  grind
theorem H2 (d:ah)(x:bn):qr d x:=λh=>by
 grind
theorem Vq (d:ah)(b:List bn)(x:bn):rV d b x:=λ_=>⟨λ_ _=>H2 _ _,λ_=>⟨λ_=>⟨λ_=>H2 _ _,λ_=>abO _ _⟩,λ_=>⟨λ_ _=>H2 _ _,λ_ _ h=>by
 simp only[aoj,decide_eq_true_eq]at h;rcases PS b x.of_ with⟨e,_⟩ | ⟨K,y,R,E,O,_⟩ <;>grind⟩⟩⟩
theorem YP (l:List bn):rA l=((decide ((l.length:Int) > 512)) ||aS l):=by
 unfold rA;cases decide ((l.length:Int) > 512)with
 |true=>rfl
 |false=>
  simp only[cond_false,apV];cases hr:aj (mn l) l.length 0 ()with
  |inr s=>
   have h:=iM.1 hr
   symm
   refine(rT l).2 λx E=>?_;obtain⟨j,O,rfl⟩:=ao0.1 E;grind [mn]
  |inl y=>
   cases hc:aS l with
   |true=>rfl
   |false=>
    have h:=(rT l).1 hc;have:aj (mn l) l.length 0 ()=.inr ():=iM.2 λj O=>by
     grind [mn]
    grind
theorem zM (d:ah)(l:List bn):oK d l:=⟨Vd d,λ_ _=>iA _ _ _ λj s _ O E=>⟨λh=>by
  rw[decide_eq_true_eq]at h;grind [aw,aI],λ_=>⟨g5,g5,g5⟩,λ_=>Vq _ _ _⟩⟩
theorem TQ (d:ah)(l:List bn):lF d l=ba d l:=by
 unfold lF ba;rw[<-Yt d,YP];cases h1:(av d !=0)with
 |true=>rfl
 |false=>
  simp only[cond_false];cases h2:((decide ((l.length:Int) > 512)) ||aS l)with
  |true=>rfl
  |false=>
   simp only[cond_false];have hr:=kE (d:=d) h1;rw[aoY,decide_eq_false_iff_not]at h2;have key:=H1 (f:=nF d l) (g:=fm d l) (λj _ t=>t=wD (l.take j)/\Asc (l.take j)) l.length 0 () [] ⟨rfl,by rw[ap3];exact List.Pairwise.nil⟩ (λj s t _ O ⟨W,E⟩ =>by
    rw[aou]at O;subst W;unfold nF fm;rw[List.drop_zero,abP hr.zs hr.bh E];cases hc:(((decide ((j:Int) > 0))&&(decide ((l.getD j (default:bn)).no<=(l.getD (Int.toNat (i64.wrap ((j:Int) - 1))) (default:bn)).no))) ||(!(dQ d (wD (l.take j)) (l.getD j (default:bn)))))with
    |true=>simp_all
    |false=>
     refine .inr ⟨(),_,rfl,rfl,by grind [cw,zH],?_⟩;rw[cw l default O];refine aoG.2 ⟨E,ao1 _ _,λy hy z V=>?_⟩;simp only[ao6]at V;subst V;rw[aoY,aps,decide_eq_false_iff_not,decide_eq_false_iff_not]at hc;obtain⟨i,hi,rfl⟩:=ao0.1 hy;rw[aph]at hi;have X:0<j:=g5
     rw[pA g5 X,aol]at hc;have h3:(l.getD (j - 1) default).no< (l.getD j default).no:=g5
     have Y:(l.take j)[i].no<=(l.getD (j - 1) default).no:=by
      rcases apv i (j - 1)with h5|h5;have:=ao3.1 E i (j - 1) g5 g6 h5;grind
      grind
     omega)
   grind
def tf (l:List Part)(n:Int)(g:Int->Int):Int->Int:=l.foldl (λg p=>kS g p.dd (g p.dd+loP p n)) g
def qA (l:List Part)(g:Int->Int):Int->Int:=l.foldl (λg p=>kS g p.dd (g p.dd+1)) g
def DH (l:List Part)(n:Int)(g:Int->Int):Int->Int:=qA (l.take (n - eM l n).toNat) (tf l n g)
def A4 (x:bn)(g:Int->Int):Int->Int:=
 if g x.since=0 then g else
 if x.kind=1 then kS (kS g x.since 0) x.to (kS g x.since 0 x.to+g x.since)else
 if x.kind=2 then DH x.parts (g x.since) (kS g x.since 0)else kS g x.since 0
theorem KO (l:List Part)(p:Part)(n:Int)(g:Int->Int):tf (l++[p]) n g=kS (tf l n g) p.dd (tf l n g p.dd+loP p n):=by
 unfold tf;grind
theorem H3 (l:List Part)(p:Part)(g:Int->Int):qA (l++[p]) g=kS (qA l g) p.dd (qA l g p.dd+1):=by
 unfold qA;grind
theorem xw (l:List Part)(p:Part)(n:Int):eM (l++[p]) n=eM l n+loP p n:=by
 unfold eM;simp
def atp (F:Nat)(l:List Part):Prop:= ∀ p∈l,0<=p.dd/\p.dd< (F:Int)/\ar5 p.share/\0<p.share.n
theorem asT.fit(h:asT d l):atp d.zs.length l:=λp E=>⟨(h.part p E).f0,(h.part p E).f1,(h.part p E).share,(h.part p E).pos⟩
theorem t9 {F:Nat}{n:Int}(V:0<=n):∀ (l:List Part) (g:Int->Int) (M:Int),atp F l->Good F M g->Good F (M+eM l n) (tf l n g)/\tot F (tf l n g)=tot F g+eM l n
 | [],g,M,_,E=>by grind [tf,eM]
 |p::l,g,M,O,E=>by
  obtain⟨a,b,c,e⟩:=O p aow;have X:=PN c e V;have Y:=E.nn p.dd;have h1:Good F (M+loP p n) (kS g p.dd (g p.dd+loP p n)):=E.put a b g5 (by have:=E.tot;omega);obtain⟨q1,W⟩:=t9 V l _ _ (λq hq=>O q (aor _ hq)) h1;have e1:eM (p::l) n=loP p n+eM l n:=by simp[eM]
  rw[xv g p.dd _ F a b]at W;rw[e1];refine⟨by rw[show M+(loP p n+eM l n)=M+loP p n+eM l n by omega];exact q1,?_⟩;show tot F (tf l n (kS g p.dd (g p.dd+loP p n)))=_;omega
theorem xx {F:Nat}:∀ (l:List Part) (g:Int->Int) (M:Int),atp F l->Good F M g->Good F (M+l.length) (qA l g)/\tot F (qA l g)=tot F g+l.length
 | [],g,M,_,E=>by grind [qA]
 |p::l,g,M,O,E=>by
  obtain⟨a,b,c,e⟩:=O p aow;have Y:=E.nn p.dd;have h1:Good F (M+1) (kS g p.dd (g p.dd+1)):=E.put a b g5 (by have:=E.tot;omega);obtain⟨X,W⟩:=xx l _ _ (λq V=>O q (aor _ V)) h1;rw[xv g p.dd _ F a b]at W;simp only[aon];refine⟨by rw[show M+((l.length+1:Nat):Int)=M+1+(l.length:Int) by omega];exact X,?_⟩;show tot F (qA l (kS g p.dd (g p.dd+1)))=_;omega
theorem atp.take(h:atp F l)(k:Nat):atp F (l.take k):=λp E=>h p (apm E)
theorem Se(h:asT d l)(X:0<=n)(O:Good d.zs.length M g):Good d.zs.length (M+n) (DH l n g)/\tot d.zs.length (DH l n g)=tot d.zs.length g+n:=by
 obtain⟨V,Y⟩:=t9 X l g M h.fit O;obtain⟨E,W⟩:=xx (l.take (n - eM l n).toNat) _ _ (h.fit.take _) V;obtain⟨l1,l2⟩:=MU h n;have e:((l.take (n - eM l n).toNat).length:Int)=n - eM l n:=g6
 rw[e]at E W;refine⟨by rw[show M+n=M+eM l n+(n - eM l n) by omega];exact E,?_⟩;show tot _ (qA _ _)=_;omega
variable {x:bn}
theorem PT(O:Fit d x)(Y:x.kind≠4)(W:Good d.zs.length L g):Good d.zs.length L (A4 x g)/\(x.kind≠3->tot d.zs.length (A4 x g)=tot d.zs.length g):=by
 obtain⟨_,_,_,s0,s1⟩:=O.held Y;unfold A4;by_cases hn:g x.since=0
 grind
 rw[if_neg hn];have V:=W.nn x.since;have hT:=W.tot;have E:Good d.zs.length (L - g x.since) (kS g x.since 0):=W.put s0 s1 (ao7 _) g5;have t1:=xv g x.since 0 d.zs.length s0 s1;by_cases X:x.kind=1
 rw[if_pos X];obtain⟨a,b,c⟩:=O.pass X;have h1:=E.nn x.to;have t2:=xv (kS g x.since 0) x.to (kS g x.since 0 x.to+g x.since) d.zs.length a b;exact⟨E.put a b g5 g5,λ_=>g5⟩;rw[if_neg X];by_cases k2:x.kind=2
 rw[if_pos k2];obtain⟨q1,q2⟩:=Se (O.split k2) V E;grind
 rw[if_neg k2];refine⟨⟨E.nn,E.sup,g5⟩,λk3=>?_⟩;rcases O.kind with e|e|e|e <;>omega
abbrev BM:=List (G2×Int)
abbrev RT (r f:Int):G2:= { right:=r,dd:=f}
def bk (m:BM):Int->Int->Int:=λr f=>aC .pq .int m (RT r f)
theorem MV (m:BM)(r f v:Int):bk (dF .pq .int m (RT r f) v)=λE=>if E=r then kS (bk m r) f v else bk m E:=by
 funext E f'
 unfold bk;rw[pC];by_cases h:E=r
 simp_all [kS];simp_all
theorem af0 (m:BM)(O:(ma m).Nodup)(r f:Int):bk (ud .pq .int m (RT r f))=λE=>if E=r then kS (bk m r) f 0 else bk m E:=by
 funext E f'
 unfold bk aC ud;have e:=(DG (RT r f) m O).2.2 (RT E f');have e':jy (CT m (RT r f)) (RT E f')=if RT E f'=RT r f then none else jy m (RT E f'):=e;by_cases h:E=r
 subst h;rw[if_pos rfl];unfold kS;by_cases h2:f'=f
 subst h2;rw[e',if_pos rfl,if_pos rfl];rfl;grind
 simp_all
theorem Good.atw(h:Good F L g)(E:L<=2147483648)(f:Int):0<=g f/\g f<=2147483648:=by
 have h1:=h.nn f;by_cases e:g f=0
 omega;obtain⟨a,b⟩:=h.sup f e;have:=HZ h.nn F f a b;have:=h.tot;omega
variable {m:BM}
theorem Vr(V:asT d x.parts)(W:0<=n)(h1:n<=1073741824)(hN:(ma m).Nodup)(hM:M+n<=2147483648)(hg:Good d.zs.length M (bk m x.right)):
  ga x n m/\(ma (dR x n m)).Nodup/\bk (dR x n m)=λr=>if r=x.right then DH x.parts n (bk m r)else bk m r:=by
 obtain⟨l1,l2⟩:=MU V n;obtain⟨⟨m1,E⟩,e1,a1,a2,a3⟩:=k_ (step:=cr x n) (λk (s:BM×Int) =>(ma s.1).Nodup/\(bk s.1=λr=>if r=x.right then tf (x.parts.take k) n (bk m r)else bk m r)/\s.2=n - eM (x.parts.take k) n) x.parts.length 0 (m,n) ⟨hN,by grind [tf],by simp[eM]⟩ (λj s _ hj ⟨j1,X,j3⟩ =>by
  rw[aou]at hj;have hm:x.parts.getD j default∈x.parts:=g6
  obtain⟨f0,f1,f2,f3⟩:=V.fit _ hm;have elo:(fB (x.parts.getD j default).share n).1=loP (x.parts.getD j default) n:=(YK f2 W h1).1;have hlo:=PN f2 f3 W;obtain⟨q1,q2⟩:=t9 W (x.parts.take j) _ _ (V.fit.take _) hg;have hs:∀ k,0<=eM (x.parts.take k) n/\eM (x.parts.take k) n<=eM x.parts n:=λk=>by
   have key:∀ l:List Part,atp d.zs.length l->0<=eM l n:=λl=>by
    induction l with
    |nil=>grind [eM]
    |cons p r ih=>
     intro hp;obtain⟨_,_,c,e⟩:=hp p aow;have:=PN c e W;have:=ih λq hq=>hp q (aor _ hq);grind [eM]
   have h1:=key _ (V.fit.take k);have h2:=key (x.parts.drop k) λp hp=>V.fit p (arf hp);grind [List.take_append_drop,eM]
  have hsj:=hs j;have Y:=hs (j+1);rw[cw _ default hj,xw]at Y;have hv:=q1.atw g5 (x.parts.getD j default).dd;have O:aC .pq .int s.1 (RT x.right (x.parts.getD j default).dd)=tf (x.parts.take j) n (bk m x.right) (x.parts.getD j default).dd:=by
   have:=congrFun (congrFun X x.right) (x.parts.getD j default).dd;grind [bk]
  refine⟨_,rfl,?_,?_,?_⟩;exact(wG _ _ _ j1).1;simp only[elo];rw[O,aw g5 g5,MV,X];funext r
  by_cases h:r=x.right
  subst h;simp only[if_true];grind [cw,KO];grind
  grind [aw,cw,xw])
 rw[aou,apD]at a2 a3;simp only at a1 a2 a3;have hlf:0<=E/\E<=(x.parts.length:Int):=g5
 obtain⟨q1,q2⟩:=t9 W x.parts _ _ V.fit hg;have tk:(x.parts.take E.toNat).drop 0=x.parts.take E.toNat:=by simp
 have tkl:(x.parts.take E.toNat).length=E.toNat:=g6
 obtain⟨m2,e2,b1,b2⟩:=k_ (step:=jB x (m1,E)) (λk (s:BM) =>(ma s).Nodup/\(bk s=λr=>if r=x.right then qA ((x.parts.take E.toNat).take k) (tf x.parts n (bk m r))else bk m r)) E.toNat 0 m1 ⟨a1,by grind [qA]⟩ (λj s _ hj ⟨j1,X⟩ =>by
  rw[aou]at hj;have hj':j< (x.parts.take E.toNat).length:=g5
  have hm:(x.parts.take E.toNat).getD j default∈x.parts.take E.toNat:=g6
  obtain⟨r1,r2⟩:=xx ((x.parts.take E.toNat).take j) _ _ ((V.fit.take _).take _) q1;have hlen:((x.parts.take E.toNat).take j).length=j:=g6
  have hv:=r1.atw g5 ((x.parts.take E.toNat).getD j default).dd;have O:aC .pq .int s (RT x.right ((x.parts.take E.toNat).getD j default).dd)=qA ((x.parts.take E.toNat).take j) (tf x.parts n (bk m x.right)) ((x.parts.take E.toNat).getD j default).dd:=by
   have:=congrFun (congrFun X x.right) ((x.parts.take E.toNat).getD j default).dd;grind [bk]
  refine⟨_,rfl,?_,?_⟩;exact(wG _ _ _ j1).1;simp only[tk];rw[O,aw g5 g5,MV,X];funext r
  by_cases h:r=x.right
  subst h;simp only[if_true];grind [cw,H3];grind)
 rw[aou]at b2;have e2':aj (jB x (m1,E)) ((x.parts.take E.toNat).drop 0).length 0 m1=.inr m2:=g6
 have eR:dR x n m=m2:=by
  grind [dR]
 refine⟨λ_ z hz=>?_,?_,?_⟩;grind
 grind
 simp_all [DH,List.take_take]
def oQ (x:bn)(B:Int->Int->Int):Int->Int->Int:=λr=>if r=x.right then A4 x (B r)else B r
def qB (a:List bn)(B:Int->Int->Int):Int->Int->Int:=a.foldl (λB x=>oQ x B) B
def abQ:List bn->(Int->Int->Int)->List Int
 | [],_=>[]|x::r,B=>(if B x.right x.since=0 then [x.no]else [])++abQ r (oQ x B)
structure as3 (d:ah)(m:BM):Prop where
 nodup:(ma m).Nodup
 good:∀ r,∃ L,L<=1073741824/\Good d.zs.length L (bk m r)
theorem as3.le(h:as3 d m)(r f:Int):0<=bk m r f/\bk m r f<=1073741824:=by
 obtain⟨L,h1,h2⟩:=h.good r;have:=h2.nn f;by_cases e:bk m r f=0
 omega;obtain⟨a,b⟩:=h2.sup f e;have:=HZ h2.nn _ f a b;have:=h2.tot;omega
theorem abR{ds:List bn}(hx:Fit d x)(hk:x.kind≠4){e:List Int}(X:as3 d m)(he:(e.length+1)*8<=dT):
  fD ds x (e,m)/\∃ V,dv ds x (e,m)=.inr (e++(if bk m x.right x.since=0 then [x.no]else []),V)/\as3 d V/\bk V=oQ x (bk m):=by
 obtain⟨r0,r1,r2,s0,s1⟩:=hx.held hk;have hv:=X.le x.right x.since;have ebk:aC .pq .int m (RT x.right x.since)=bk m x.right x.since:=rfl;have hdel:=DG (RT x.right x.since) m X.nodup;have hstep:∀ V:BM,(ma V).Nodup->bk V=oQ x (bk m)->as3 d V:=λV hN Y=>by
  refine⟨hN,λr=>?_⟩;obtain⟨L,h1,h2⟩:=X.good r;refine⟨L,h1,?_⟩;rw[Y];show Good _ _ (if r=x.right then A4 x (bk m r)else bk m r);split
  exact(PT hx hk h2).1;exact h2
 have hlen:(e++[x.no]).length=e.length+1:=by simp
 unfold fD dv;simp only[ebk,hlen];by_cases hn:bk m x.right x.since=0
 have b0:(bk m x.right x.since==0)=true:=by simp[hn]
 rw[b0,if_pos hn];refine⟨⟨λ_=>he,(λh=>by cases h)⟩,m,rfl,X,?_⟩;funext r
 simp_all [oQ,A4];have b0:(bk m x.right x.since==0)=false:=g6
 rw[b0,if_neg hn,aoC];simp only[cond_false];have E:=af0 m X.nodup x.right x.since;have W:(ma (ud .pq .int m (RT x.right x.since))).Nodup:=hdel.1;have O:Good d.zs.length (1073741824 - bk m x.right x.since) (bk (ud .pq .int m (RT x.right x.since)) x.right):=by
  obtain⟨L,h1,h2⟩:=X.good x.right;rw[E];simp only[if_true];exact h2.put s0 s1 (ao7 _) (by have:=h2.tot;omega)
 by_cases k1:x.kind=1
 have b1:(x.kind==1)=true:=by simp[k1]
 rw[b1];simp only[cond_true];obtain⟨a,b,c⟩:=hx.pass k1;have hto:=O.atw g5 x.to;have e2:aC .pq .int (ud .pq .int m (RT x.right x.since)) (RT x.right x.to)=kS (bk m x.right) x.since 0 x.to:=by
  grind [bk]
 have hto':0<=kS (bk m x.right) x.since 0 x.to/\kS (bk m x.right) x.since 0 x.to<=2147483648:=by
  grind
 refine⟨⟨(λh=>by cases h),(λ_ h=>by cases h)⟩,_,rfl,?_⟩;have Y:bk (fC x (bk m x.right x.since) (ud .pq .int m (RT x.right x.since)))=oQ x (bk m):=by
  unfold fC;rw[e2,aw g5 g5,MV,E];funext r
  simp_all [oQ,A4]
 exact⟨hstep _ (by unfold fC;exact(wG _ _ _ W).1) Y,Y⟩;have b1:(x.kind==1)=false:=g6
 rw[b1];simp only[cond_false];by_cases k2:x.kind=2
 have b2:(x.kind==2)=true:=by simp[k2]
 rw[b2];simp only[cond_true];obtain⟨p1,p2,p3⟩:=Vr (hx.split k2) hv.1 hv.2 W (M:=1073741824 - bk m x.right x.since) g5 O;refine⟨⟨(λh=>by cases h),λ_ _=>⟨λ_=>p1,(λh=>by cases h)⟩⟩,_,rfl,?_⟩;have Y:bk (dR x (bk m x.right x.since) (ud .pq .int m (RT x.right x.since)))=oQ x (bk m):=by
  rw[p3,E];funext r
  simp_all [oQ,A4]
 grind
 have b2:(x.kind==2)=false:=g6
 rw[b2];simp only[cond_false];have k3:x.kind=3:=by rcases hx.kind with h|h|h|h <;>omega
 have b3:(x.kind==3)=true:=by simp[k3]
 rw[b3];simp only[cond_true];refine⟨⟨(λh=>by cases h),λ_ _=>⟨(λh=>by cases h),(λ_ h=>by cases h)⟩⟩,_,rfl,?_⟩;have Y:bk (ud .pq .int m (RT x.right x.since))=oQ x (bk m):=by
  rw[E];funext r
  simp_all [oQ,A4]
 grind
theorem KP {d:ah}(ds:List bn):∀ (l:List bn),(∀ x∈l,Fit d x/\x.kind≠4)->∀ (e:List Int) (m:BM),as3 d m->(e.length+l.length)*8<=dT->
  okL (dv ds) (fD ds) l (e,m)/\∃ E,cG (dv ds) l (e,m)=.inr (e++abQ l (bk m),E)/\as3 d E/\bk E=qB l (bk m)
 | [],_,e,m,O,_=>⟨trivial,m,by simp[cG,abQ],O,rfl⟩
 |x::l,h,e,m,O,hB=>by
  simp only[aon]at hB;obtain⟨h1,h2⟩:=h x aow;obtain⟨q1,m1,X,Y,W⟩:=abR (ds:=ds) h1 h2 (e:=e) O g5;have V:(e++(if bk m x.right x.since=0 then [x.no]else [])).length<=e.length+1:=g6
  obtain⟨r1,m2,r2,r3,r4⟩:=KP ds l (λy hy=>h y (aor _ hy)) (e++(if bk m x.right x.since=0 then [x.no]else [])) m1 Y g5;refine⟨⟨q1,λs hs=>g6⟩,m2,?_,r3,?_⟩;simp only[cG,X];rw[r2,W,ao_];rfl;rw[r4,W];rfl
def B0 (d:ah):Int->Int->Int:=λr f=>if 0<=r/\r< (d.bh.length:Int)/\(d.bh.getD r.toNat default).kind=1/\(d.bh.getD r.toNat default).dd=f then(d.bh.getD r.toNat default).bl else 0
structure at5 (d:ah)(x:ar4):Prop where
 f0:0<=x.dd
 f1:x.dd< (d.zs.length:Int)
 l0:1<=x.bl
 l1:x.bl<=1073741824
theorem FI(h:av d=0){k:Nat}(V:k<d.bh.length)(W:(d.bh.getD k default).kind=1):at5 d (d.bh.getD k default):=by
 have:=((sF d).1 h).2.2.2.2.2.2.2.1 k V;unfold eJ at this;rw[jt]at this;have h2:jA d (d.bh.getD k default)=true:=by
  grind
 unfold jA at h2;cases E:((!(cU (d.bh.getD k default).dd (d.zs.length:Int))) ||(!(cU (d.bh.getD k default).reach (d.reaches.length:Int)))) ||(!(aP ([0,(d.bh.getD k default).since,(d.bh.getD k default).to,(i64.wrap (d.hours - 1))])))with
 |true=>grind
 |false=>
  rw[E,show((d.bh.getD k default).kind==1)=true by rw[W];rfl]at h2;simp only[cond_true,cond_false,aoj]at h2;simp only[aoY,apC]at E;have O:=E.1.1;unfold cU at O;simp only[aoj,decide_eq_true_eq]at O;have X:=xm h2.1.2;exact⟨g5,g5,g5,g5⟩
theorem af1(h:av d=0)(r:Int):∃ L,L<=1073741824/\Good d.zs.length L (B0 d r):=by
 by_cases hr:0<=r/\r< (d.bh.length:Int)/\(d.bh.getD r.toNat default).kind=1
 ·have E:=FI h (k:=r.toNat) g5 hr.2.2;have W:=E.l0;refine⟨(d.bh.getD r.toNat default).bl,E.l1,?_⟩;have e:B0 d r=kS (λ_=>0) (d.bh.getD r.toNat default).dd (d.bh.getD r.toNat default).bl:=by
   funext f
   unfold B0 kS;grind
  have t0:∀ n,tot n (λ_=>0)=0:=λn=>by
   induction n with
   |zero=>rfl|succ n V=>grind [tot]
  rw[e];exact Good.put (L:=0) ⟨λ_=>ao7 _,λf O=>absurd rfl O,g6⟩ E.f0 E.f1 g5 g6
 ·refine⟨0,g5,?_⟩;have e:B0 d r=λ_=>0:=by
   funext f
   unfold B0;omega
  have t0:∀ n,tot n (λ_=>0)=0:=λn=>by
   induction n with
   |zero=>rfl|succ n V=>grind [tot]
  rw[e];exact⟨λ_=>ao7 _,λf O=>absurd rfl O,g6⟩
theorem YQ(h:av d=0):∃ m,aj (du d) d.bh.length 0 []=.inr m/\as3 d m/\bk m=B0 d:=by
 obtain⟨m,h1,h2,W⟩:=k_ (step:=du d) (λk (m:BM) =>(ma m).Nodup/\bk m=λr f=>if r< (k:Int)then B0 d r f else 0) d.bh.length 0 ([]:BM) ⟨by simp[ma],by
   funext r f
   by_cases hr:r< ((0:Nat):Int)
   rw[if_pos hr];unfold B0 bk;rw[if_neg g5];rfl;rw[if_neg hr];rfl⟩ (λj m _ X ⟨O,E⟩ =>by
  rw[aou]at X;unfold du;by_cases V:(d.bh.getD j default).kind=1
  rw[show((d.bh.getD j default).kind==1)=true by rw[V];rfl];refine⟨_,rfl,(wG _ _ _ O).1,?_⟩;rw[MV,E];funext r f
  by_cases hr:r=(j:Int)
  subst hr;simp only[if_true];unfold kS B0;grind
  simp only[if_neg hr];omega;rw[show((d.bh.getD j default).kind==1)=false by grind];refine⟨_,rfl,O,?_⟩;rw[E];funext r f
  by_cases hr:r=(j:Int)
  simp_all [B0];omega)
 have e:bk m=B0 d:=by
  rw[W];funext r f
  split
  rfl;unfold B0;omega
 refine⟨m,h1,⟨h2,λr=>?_⟩,e⟩;rw[e];exact af1 h r
theorem Vs(h:av d=0){ds:List bn}(hd:∀ x∈ds,Fit d x/\x.kind≠4)(hl:ds.length<=512):
  mD d ds/\∃ m,fJ d ds=(m,yR (abQ ds (B0 d)))/\as3 d m/\bk m=qB ds (B0 d):=by
 obtain⟨X,Y,o0,b0⟩:=YQ h;obtain⟨q1,m1,E,W,V⟩:=KP (d:=d) ds ds hd [] X o0 (by grind [dT]);rw[aos]at E;rw[b0]at E V;refine⟨λ_ z O=>?_,m1,?_,W,V⟩;rw[Y]at O;cases O;refine⟨YF ds,?_⟩;grind [zK]
 grind [fJ,zK]
def ke (d:ah)(l:List bn)(a b:Int):Int->Int->Int:=qB (stS (Cb l a b)) (B0 d)
def y9 (d:ah)(B:Int->Int->Int)(r f:Nat):Option arI:=if 0<B r f then some { right:=(r:Int),dd:=(f:Int),bl:=B r f,arM:=(d.bh.getD r default).arM}else none
def kG (d:ah)(B:Int->Int->Int)(r:Nat):List arI:=(List.range d.zs.length).filterMap (y9 d B r)
def sO (d:ah)(B:Int->Int->Int):List arI:=(List.range d.bh.length).flatMap (kG d B)
variable {B:Int->Int->Int}{x:arI}
theorem qC{r:Nat}:x∈kG d B r↔∃ f:Nat,f<d.zs.length/\0<B r f/\x= { right:=(r:Int),dd:=(f:Int),bl:=B r f,arM:=(d.bh.getD r default).arM}:=by
 unfold kG y9;grind
theorem zN:x∈sO d B↔0<=x.right/\x.right< (d.bh.length:Int)/\0<=x.dd/\x.dd< (d.zs.length:Int)/\0<x.bl/\x.bl=B x.right x.dd/\x.arM=(d.bh.getD x.right.toNat default).arM:=by
 unfold sO;rw[apJ];constructor
 rintro⟨r,hr,E⟩;rw[apN]at hr;obtain⟨f,V,O,rfl⟩:=qC.1 E;grind
 rintro⟨a,b,c,e,O,h1,h2⟩;refine⟨x.right.toNat,apN.2 g5,qC.2 ⟨x.dd.toNat,g5,?_,?_⟩⟩;grind
 rw[apq a,apq c,<-h1,<-h2]
def PU:∀ n:Nat,(List.range n).Pairwise (· < ·):=λn=>List.pairwise_lt_range
theorem xy (d:ah)(B:Int->Int->Int):(sO d B).Pairwise hlt:=by
 unfold sO;rw[aq9];refine⟨λr _=>?_,?_⟩;unfold kG;rw[aqv];refine(PU _).imp λ{a b} O x E y hy=>?_;unfold y9 at E hy;split at E
 split at hy
 cases E;cases hy;exact Or.inr ⟨rfl,Or.inl g6⟩;cases hy;cases E;refine(PU _).imp λ{a b} O x E y hy=>?_;obtain⟨f,_,_,rfl⟩:=qC.1 E;obtain⟨g,_,_,rfl⟩:=qC.1 hy;simp only[hlt,pO,and_false,or_false];omega
theorem abS (x:arI):¬hlt x x:=by simp only[hlt,pO,and_false,or_false];omega
theorem Vt {l:List arI}(h:l.Pairwise hlt):l.Nodup:=h.imp λ{a b} E e=>by subst e;exact abS _ E
theorem wH {α β:Type}(f:α->List β)(k:Nat):∀ l:List α,(∀ a∈l,(f a).length<=k)->(l.flatMap f).length<=l.length*k
 | [],_=>by simp
 |a::l,h=>by
  have h1:=h a aow;have h2:=wH f k l λb E=>h b (aor _ E);rw[aoF,aoq,aon,aqP,Nat.one_mul];omega
theorem DI(hr:arW d)(B:Int->Int->Int):(sO d B).length<=153600:=by
 have h1:=wH (kG d B) 600 (List.range d.bh.length) λr _=>aoA (apY _ _) (by rw[apU];exact hr.zs);rw[apU]at h1;have:=hr.bh;show((List.range d.bh.length).flatMap (kG d B)).length<=_;omega
def uL (d:ah)(k:G2×Int):Option arI:=if 0<k.2 then some { right:=k.1.right,dd:=k.1.dd,bl:=k.2,arM:=(d.bh.getD (Int.toNat k.1.right) default).arM}else none
theorem MW (d:ah)(l:List bn)(h n:Int):∀ (L:BM) (s:List arI),cG (fF d l h n) L s=.inr (s++L.filterMap (uL d))
 | [],s=>by simp[cG]
 |k::L,s=>by
  by_cases E:0<k.2
  have e:uL d k=some { right:=k.1.right,dd:=k.1.dd,bl:=k.2,arM:=(d.bh.getD (Int.toNat k.1.right) (default:ar4)).arM}:=by unfold uL;grind
  rw[aqT e];simp only[cG];unfold fF;rw[decide_eq_true (show k.2 > 0 from E)];simp only[cond_true];have:=MW d l h n L (s++[{ right:=k.1.right,dd:=k.1.dd,bl:=k.2,arM:=(d.bh.getD (Int.toNat k.1.right) (default:ar4)).arM}]);unfold fF at this;grind
  have e:uL d k=none:=by unfold uL;grind
  rw[aqU e];simp only[cG];unfold fF;rw[decide_eq_false (show ¬k.2 > 0 from E)];simp only[cond_false];have:=MW d l h n L s;unfold fF at this;exact this
theorem Sf (d:ah)(l:List bn)(h n:Int):∀ (L:BM) (s:List arI),(∀ k∈L,0<k.2->0<=k.1.right/\k.1.right< (d.bh.length:Int))->(s.length+(L.filterMap (uL d)).length)*32<=dT->okL (fF d l h n) (oa d l h n) L s
 | [],_,_,_=>trivial
 |k::L,s,X,W=>by
  by_cases O:0<k.2
  have e:uL d k=some { right:=k.1.right,dd:=k.1.dd,bl:=k.2,arM:=(d.bh.getD (Int.toNat k.1.right) (default:ar4)).arM}:=by unfold uL;grind
  rw[aqT e,aon]at W;refine⟨λ_=>⟨X k aow O,g6⟩,λs' E=>?_⟩;unfold fF at E;rw[decide_eq_true (show k.2 > 0 from O)]at E;cases E;exact Sf d l h n L _ (λq V=>X q (aor _ V)) g6;have e:uL d k=none:=by unfold uL;grind
  rw[aqU e]at W;refine⟨λh=>absurd (of_decide_eq_true h) O,λs' E=>?_⟩;unfold fF at E;rw[decide_eq_false (show ¬k.2 > 0 from O)]at E;cases E;exact Sf d l h n L _ (λq V=>X q (aor _ V)) W
theorem TR {d:ah}{r:Int}(hr:¬ (0<=r/\r< (d.bh.length:Int))):∀ (ds:List bn) (B:Int->Int->Int),(∀ x∈ds,Fit d x/\x.kind≠4)->qB ds B r=B r
 | [],B,_=>rfl
 |x::ds,B,h=>by
  have h1:=h x aow;have h2:=h1.1.held h1.2;show qB ds (oQ x B) r=_;rw[TR hr ds _ λy hy=>h y (aor _ hy)];unfold oQ;grind
variable {l:List bn}
theorem Cj(h:atC d l)(hour known:Int):∀ x∈stS (Cb l hour known),Fit d x/\x.kind≠4:=λx E=>by
 have E:=abH.1 E;unfold Cb at E;rw[aqp]at E;refine⟨h.fit x E.1,λe=>?_⟩;grind
def TS (l:List bn):(stS l).length=l.length:=(wE (y4 l)).symm
def abT {α:Type}{a b:List α}(O:a.Nodup)(E:b.Nodup)(h:∀ x,x∈a↔x∈b):a.Perm b:=(List.perm_ext_iff_of_nodup O E).2 h
theorem Vu(h:atC d l)(X:as3 d m){hour known:Int}(hb:bk m=ke d l hour known):
  (m.filterMap (uL d)).Perm (sO d (ke d l hour known))/\∀ k∈m,0<k.2->0<=k.1.right/\k.1.right< (d.bh.length:Int):=by
 have O:∀ (t:G2) (v:Int),(t,v)∈m->bk m t.right t.dd=v:=λt v htv=>by
  have:=(HY X.nodup).2 htv;show(jy m { right:=t.right,dd:=t.dd}).getD _=v;grind
 have V:∀ k∈m,0<k.2->0<=k.1.right/\k.1.right< (d.bh.length:Int):=λk Y W=>by
  rcases aq6 (0<=k.1.right/\k.1.right< (d.bh.length:Int))with hr|hr;exact hr;have e:=O k.1 k.2 Y;rw[hb]at e;unfold ke at e;rw[TR hr _ _ (Cj h hour known)]at e;unfold B0 at e;omega
 refine⟨abT ?_ (Vt (xy _ _)) λx=>?_,V⟩;rw[List.Nodup,aqv];have:m.Pairwise λa b=>a.1≠b.1:=by
  have:=X.nodup;grind [ma]
 refine this.imp λ{a b} hab x E y hy=>?_;unfold uL at E hy;split at E
 split at hy
 cases E;cases hy;intro e;simp only[arI.mk.injEq]at e;refine hab ?_;obtain⟨⟨a1,a2⟩,a3⟩:=a;simp_all;cases hy;cases E;rw[ars,zN];constructor
 rintro⟨k,Y,E⟩;unfold uL at E;split at E
 rename_i W;cases E;have e:=O k.1 k.2 Y;obtain⟨a,b⟩:=V k Y W;obtain⟨L,_,hg⟩:=X.good k.1.right;obtain⟨c,f⟩:=hg.sup k.1.dd (by rw[e];omega);simp_all;cases E;rintro⟨a,b,c,f,W,h1,h2⟩;rw[<-hb]at h1;have h3:jy m (RT x.right x.dd)=some x.bl:=by
  have e:bk m x.right x.dd=(jy m (RT x.right x.dd)).getD 0:=rfl;cases hg:jy m (RT x.right x.dd) <;>grind
 refine⟨(RT x.right x.dd,x.bl),(HY X.nodup).1 h3,?_⟩;unfold uL;rw[if_pos W];simp only[aoo];rw[<-h2]
open Go.Shelf Go.Sort in
variable {d:ah}{B:Int->Int->Int}
theorem KQ{s:List arI}(h:s.Perm (sO d B)):apart dm s/\srt dm s=sO d B:=by
 have e1:∀ x y,ltOf dm x y=true↔hlt x y:=λx y=>by unfold ltOf;rw[decide_eq_true_eq,Hq]
 have E:∀ x y,ltOf dm x y=false↔¬hlt x y:=λx y=>g6
 have V:∀ x∈sO d B,∀ y∈sO d B,¬hlt x y->¬hlt y x->x=y:=λx W y hy h1 h2=>by
  obtain⟨_,_,_,_,_,x1,x2⟩:=zN.1 W;obtain⟨_,_,_,_,_,y1,y2⟩:=zN.1 hy;simp only[hlt,pO,and_false,or_false]at h1 h2;have q1:x.right=y.right:=g5
  have q2:x.dd=y.dd:=g5
  obtain⟨a,b,c,e⟩:=x;obtain⟨a',b',c',e'⟩:=y;grind
 refine⟨λx W y hy h1 h2=>V x (h.subset W) y (h.subset hy) ((E x y).1 h1) ((E y x).1 h2),?_⟩;unfold srt;have Y:(s.mergeSort λx y=>!(ltOf dm y x)).Perm (sO d B):=(apo _ _).trans h;refine apu (le:=λx y=>(!ltOf dm y x)=true) ?_ ?_ ?_ Y;grind
 refine apk ?_ ?_ s;intro a b c h1 h2;simp only[aox]at h1 h2 |-;exact Eo.3 c b a h2 h1;intro a b;simp only[aoN,aox];rcases aq6 (hlt b a)with hh|hh;refine .inr ((E _ _).2 λO=>?_);simp only[hlt,pO,and_false,or_false]at hh O;omega;grind
 refine(xy d B).imp λ{a b} X=>?_;simp only[aox];refine(E _ _).2 λO=>?_;simp only[hlt,pO,and_false,or_false]at X O;omega
theorem KR (d:ah)(l:List bn)(hour known:Int):rY d l hour known/\
  aD d l hour known=if ba d l≠0 then([],ba d l)else if 0<=hour/\hour<d.hours/\0<=known/\known<=1048576 then(sO d (ke d l hour known),0)else([],1):=by
 by_cases hc:ba d l=0
 have E:=uG hc;have hE:=((zI d l).1 hc).1;have hh:=E.right.hours;have hh1:=E.right.ar9;have hw:((!(aU hour 0 (i64.wrap (d.hours - 1)))) ||(!(aU known 0 1048576)))= !decide (0<=hour/\hour<d.hours/\0<=known/\known<=1048576):=by
  rw[aw g5 g5,<-Bool.not_and];congr 1
  rw[ape,aoj,xn,xn,decide_eq_true_eq];omega
 obtain⟨c1,c2⟩:=Pp l hour known E.len;have O:(stS (Cb l hour known)).length<=512:=by rw[TS];exact aoA (apa _ _) E.len
 obtain⟨f1,m,f2,f3,f4⟩:=Vs hE (Cj E hour known) O;obtain⟨p1,p2⟩:=Vu E f3 (hour:=hour) (known:=known) f4;have key:∀ L:BM,L.Perm m->(L.filterMap (uL d)).Perm (sO d (ke d l hour known)):=λL V=>(V.filterMap _).trans p1;have val:aD d l hour known=if 0<=hour/\hour<d.hours/\0<=known/\known<=1048576 then(sO d (ke d l hour known),0)else([],1):=by
  unfold aD;rw[hc,hw,c2,f2];simp only[bne_self_eq_false,cond_false];by_cases X:0<=hour/\hour<d.hours/\0<=known/\known<=1048576
  rw[decide_eq_true X,if_pos X];simp only[aoH,cond_false];rw[MW,aos];simp only;rw[(KQ (key m (List.Perm.refl _))).2];grind
 refine⟨⟨wC d l,(λh=>g6),λ_=>⟨λh=>?_,λh=>?_⟩⟩,g6⟩;grind
 rw[hw]at h;have X:0<=hour/\hour<d.hours/\0<=known/\known<=1048576:=by simpa using h
 rw[c2,f2];refine⟨c1,f1,λL V=>?_⟩;have W:=key L V;refine⟨Sf d l hour known L [] (λk W=>p2 k (V.subset W)) ?_,λs Y=>?_⟩;have h1:=W.length_eq;have h2:=DI E.right (ke d l hour known);grind [dT]
 rw[MW,aos]at Y;cases Y;obtain⟨s1,s2⟩:=KQ W;grind
 have hne:(ba d l !=0)=true:=g6
 have val:aD d l hour known=([],ba d l):=by grind [aD]
 refine⟨⟨wC d l,(λ_=>val.symm),λh=>?_⟩,g6⟩;grind
variable {l:List bn}
theorem H4{known n:Int}:rt l known n=true↔∃ u∈l,u.kind=4/\u.known<=known/\u.of_=n:=by
 simp_all [rt,and_assoc]
def lv (l:List bn)(b a:Int)(x:bn):Bool:= !((((x.kind==4) ||(decide (x.known > a))) ||(decide (x.at_ > b))) ||rt l a x.no)
def PW (r:Int):List arI->Int
 | [] =>0|x::l=>(if x.right=r then x.bl else 0)+PW r l
theorem MX {d:ah}{r L:Int}:∀ (ds:List bn) (B:Int->Int->Int),(∀ x∈ds,Fit d x/\x.kind≠4)->Good d.zs.length L (B r)->Good d.zs.length L (qB ds B r)/\((∀ x∈ds,x.right=r->x.kind≠3)->tot d.zs.length (qB ds B r)=tot d.zs.length (B r))
 | [],B,_,E=>⟨E,λ_=>rfl⟩
 |x::ds,B,h,E=>by
  have V:=h x aow;have h1:Good d.zs.length L (oQ x B r)/\((x.right=r->x.kind≠3)->tot d.zs.length (oQ x B r)=tot d.zs.length (B r)):=by
   unfold oQ;by_cases e:r=x.right
   rw[if_pos e];obtain⟨W,O⟩:=PT V.1 V.2 E;grind
   grind
  obtain⟨W,O⟩:=MX ds (oQ x B) (λy hy=>h y (aor _ hy)) h1.1;exact⟨W,λX=>(O λy hy=>X y (aor _ hy)).trans (h1.2 (X x aow))⟩
theorem PY {d:ah}{r:Int}(hr:¬ (0<=r/\r< (d.bh.length:Int)/\(d.bh.getD r.toNat default).kind=1)):∀ (ds:List bn) (B:Int->Int->Int),(∀ x∈ds,Fit d x/\x.kind≠4)->qB ds B r=B r
 | [],B,_=>rfl
 |x::ds,B,h=>by
  have h1:=h x aow;have h2:=h1.1.held h1.2;show qB ds (oQ x B) r=_;rw[PY hr ds _ λy hy=>h y (aor _ hy)];unfold oQ;grind
theorem t0:∀ n,tot n (λ_=>0)=0:=λn=>by
 induction n with
 |zero=>rfl|succ n E=>grind [tot]
theorem TT(h:av d=0){k:Nat}(O:k<d.bh.length)(V:(d.bh.getD k default).kind=1):Good d.zs.length (d.bh.getD k default).bl (B0 d k)/\tot d.zs.length (B0 d k)=(d.bh.getD k default).bl:=by
 have E:=FI h O V;have X:=E.l0;have e:B0 d k=kS (λ_=>0) (d.bh.getD k default).dd (d.bh.getD k default).bl:=by
  funext f
  unfold B0 kS;grind
 rw[e];refine⟨Good.put (L:=0) ⟨λ_=>ao7 _,λf W=>absurd rfl W,by grind [t0]⟩ E.f0 E.f1 g5 (by rw[t0];omega),?_⟩;rw[xv _ _ _ _ E.f0 E.f1,t0];omega
theorem abU{r:Int}(hr:¬ (0<=r/\r< (d.bh.length:Int)/\(d.bh.getD r.toNat default).kind=1)):B0 d r=λ_=>0:=by
 funext f
 unfold B0;omega
structure at6 (d:ah)(B:Int->Int->Int):Prop where
 nn:∀ r f,0<=B r f
 take:∀ k,k<d.bh.length->(d.bh.getD k default).kind=1->Good d.zs.length (d.bh.getD k default).bl (B k)
 other:∀ r:Int,¬ (0<=r/\r< (d.bh.length:Int)/\(d.bh.getD r.toNat default).kind=1)->B r=λ_=>0
theorem PZ(h:av d=0){ds:List bn}(hd:∀ x∈ds,Fit d x/\x.kind≠4):at6 d (qB ds (B0 d)):=by
 have O:∀ k,k<d.bh.length->(d.bh.getD k default).kind=1->Good d.zs.length (d.bh.getD k default).bl (qB ds (B0 d) k):=λk W E=>(MX ds _ hd (TT h W E).1).1;have V:∀ r:Int,¬ (0<=r/\r< (d.bh.length:Int)/\(d.bh.getD r.toNat default).kind=1)->qB ds (B0 d) r=λ_=>0:=λr hr=>(PY hr ds _ hd).trans (abU hr);refine⟨λr f=>?_,O,V⟩;by_cases hr:0<=r/\r< (d.bh.length:Int)/\(d.bh.getD r.toNat default).kind=1
 have:=(O r.toNat g5 hr.2.2).nn f;grind
 grind
theorem at6.le(h:at6 d B)(O:av d=0)(r f:Int):B r f<=1073741824:=by
 by_cases hr:0<=r/\r< (d.bh.length:Int)/\(d.bh.getD r.toNat default).kind=1
 have V:=h.take r.toNat g5 hr.2.2;have E:=FI O (k:=r.toNat) g5 hr.2.2;have:=V.le (by have:=E.l0;omega) f;rw[apq hr.1]at this;have:=E.l1;omega;rw[h.other r hr];simp
theorem P2 {α:Type}{step:Nat->List α->Empty⊕List α}(l:List α)(d:α)(P:α->Bool)(s0:List α)(h:∀ k s,k<l.length->step k s=bif P (l.getD k d)then .inr (s++[l.getD k d])else .inr s):aj step l.length 0 s0=.inr (s0++l.filter P):=by
 obtain⟨r,h1,h2⟩:=k_ (step:=step) (λk s=>s=s0++(l.take k).filter P) l.length 0 s0 (by simp) (λj s _ E O=>by
  rw[aou]at E;grind [cw])
 grind
theorem P3 {α:Type}{step:Nat->List α->Empty⊕List α}{p:Nat->List α->Prop}(l:List α)(d:α)(P:α->Bool)(s0:List α)(h:∀ k s,k<l.length->step k s=bif P (l.getD k d)then .inr (s++[l.getD k d])else .inr s)(O:∀ k s,k<l.length->s.length<=s0.length+k->p k s):okI step p l.length 0 s0:=by
 refine ij (λk s=>s.length<=s0.length+k) _ _ _ (aom _) λj s _ V E=>⟨O j s g5 E,λs' e=>?_⟩;grind
theorem af2 (l:List bn)(x:bn)(known:Int):rC l x known=rt l known x.no:=by
 unfold rC;cases hr:aj (mo l x known) l.length 0 ()with
 |inr s=>
  have h:=iM.1 hr
  symm
  rw[<-apK,H4];rintro⟨u,E,a,b,c⟩;obtain⟨j,O,rfl⟩:=ao0.1 E;grind [mo]
 |inl y=>
  cases hc:rt l known x.no with
  |true=>rfl
  |false=>
   have:aj (mo l x known) l.length 0 ()=.inr ():=iM.2 λj O=>by
    unfold mo;have h2:¬ ((l.getD j default).kind=4/\(l.getD j default).of_=x.no/\(l.getD j default).known<=known):=λ⟨a,b,c⟩ =>by
     have:rt l known x.no=true:=H4.2 ⟨l.getD j default,g6,a,c,b⟩;grind
    grind
   grind
def qv (l:List bn)(a:Int)(x:bn):Bool:=(x.kind !=4)&&(decide (x.known<=a))&& !rt l a x.no
theorem akK (l:List bn)(hour known:Int)(x:bn):lv l hour known x=(qv l known x&&decide (x.at_<=hour)):=by
 grind [lv,qv]
theorem Sg(V:atC d l)(hour known:Int):lr l hour known/\dJ l hour known=stS (Cb l hour known):=by
 have hl:=V.len;have stp:∀ (s:List bn×Int) k (t:List bn),k<l.length->i6 l known s k t=bif((l.getD k default).at_==s.2)&&qv l known (l.getD k default)then .inr (t++[l.getD k default])else .inr t:=λs k t hk=>by
  grind [i6,qv,af2]
 obtain⟨k1,r,k2,Y,k4⟩:okI (gQ l hour known) (ju l hour known) (Int.toNat hour+2) 0 ([],0)/\∃ r,aj (gQ l hour known) (Int.toNat hour+2) 0 ([],0)=.inl r/\arG (Cb l hour known) r/\Srt r:=by
  refine Ac (λs:List bn×Int=>((Int.toNat hour+1:Nat):Int).toNat - s.2.toNat) (λs:List bn×Int=>∃ k:Nat,s.2=(k:Int)/\k<=4097/\(k=0\/(k:Int)<=hour+1)/\Srt s.1/\(∀ x∈s.1,x.at_< (k:Int))/\arG (l.filter λx=>qv l known x&&decide (x.at_< (k:Int))) s.1/\s.1.length<=512) _ ?_ _ _ _ ⟨0,rfl,g5,.inl rfl,List.Pairwise.nil,by simp,?_,by simp⟩ g5;rintro j ⟨o,a⟩ ⟨k,rfl,h1,X,h2,h3,h4,h5⟩;unfold ju gQ;by_cases hc:(k:Int)<=4096/\(k:Int)<=hour
  have e:((decide ((k:Int)<=4096))&&(decide ((k:Int)<=hour)))=true:=g6
  simp only[e];have er:=P2 (step:=i6 l known (o,(k:Int))) l default (λx=>(x.at_==(k:Int))&&qv l known x) o (stp _);rw[er];simp only[cond_true];have E:arG (l.filter λx=>qv l known x&&decide (x.at_< ((k+1:Nat):Int))) (o++l.filter λx=>(x.at_==(k:Int))&&qv l known x):=λt=>by
   rw[aqM,<-h4 t,aqs,aqs,aqs];by_cases ht:t< (k:Int)
   have e2:l.filter (λa=>(a.at_==t)&&((a.at_==(k:Int))&&qv l known a))=[]:=by
    grind [List.filter_eq_nil_iff]
   grind
   have e2:l.filter (λa=>(a.at_==t)&&(qv l known a&&decide (a.at_< (k:Int))))=[]:=by
    simp_all
   grind
  have O:(o++l.filter λx=>(x.at_==(k:Int))&&qv l known x).length<=512:=by
   rw[<-wE E];grind
  have hf2:=apa (λx=>(x.at_==(k:Int))&&qv l known x) l;refine⟨λ_=>P3 l default (λx=>(x.at_==(k:Int))&&qv l known x) o (stp _) λi s hi hs=>λ_ _=>by grind [dT],.inr ⟨_,rfl,?_,k+1,?_,g5,.inr g5,?_,?_,E,O⟩⟩;grind [aw]
  grind [aw]
  refine Dz h2 (List.pairwise_of_forall_mem_list λx W y hy=>?_) λx W y hy=>?_ <;>grind;grind
  have e:((decide ((k:Int)<=4096))&&(decide ((k:Int)<=hour)))=false:=g6
  simp only[e,cond_false];refine⟨(λh=>by cases h),.inl ⟨_,rfl,?_,h2⟩⟩;have:Cb l hour known=l.filter λx=>qv l known x&&decide (x.at_< (k:Int)):=by
   show l.filter (lv l hour known)=_;refine List.filter_congr λx W=>?_;rw[akK];have:=(V.fit x W).at0;have:=(V.fit x W).at1;grind
  grind
  intro t;rw[aqs];show l.filter _=[];rw[List.filter_eq_nil_iff];intro a ha;have:=(V.fit a ha).at0;grind
 unfold lr dJ;rw[k2];exact⟨⟨k1,λz h=>by cases h⟩,A2 Y k4⟩
def asK (F:Nat)(s:List Int)(g:Int->Int):Prop:=s.length=F/\∀ f:Nat,f<F->s.getD f 0=g (f:Int)
variable {g:Int->Int}{f:Int}
theorem asK.set{F:Nat}{s:List Int}(h:asK F s g){v:Int}(O:0<=f)(h1:f< (F:Int)):asK F (s.set f.toNat v) (kS g f v):=by
 refine⟨by rw[aqn];exact h.1,λi hi=>?_⟩;have E:=h.1;unfold kS;by_cases e:i=f.toNat
 grind
 rw[if_neg g5,aqN,List.getElem?_set_ne (λh=>e h.symm),<-aqN,h.2 i hi]
theorem asK.get{F:Nat}{s:List Int}(h:asK F s g)(E:0<=f)(h1:f< (F:Int)):s.getD f.toNat 0=g f:=by
 rw[h.2 f.toNat g5,apq E]
def A5 (r:Int):List bn->(Int->Int->Int)->List Int
 | [],_=>[]|x::ds,B=>(if x.right=r/\B x.right x.since=0 then [x.no]else [])++A5 r ds (oQ x B)
theorem KS (ds:List bn)(B:Int->Int->Int){j:Nat}(E:j<ds.length):qB (ds.take (j+1)) B=oQ (ds.getD j default) (qB (ds.take j) B):=by
 grind [cw,qB]
variable {r:Nat}
theorem YR{ds:List bn}{j:Nat}{x:bn}(ex:ds.getD j default=x)(hx:Fit d x)(hk:x.kind≠4){L:Int}(hL:L<=1073741824){e s:List Int}(hg:Good d.zs.length L g)(hs:asK d.zs.length s g)(he:(e.length+1)*8<=dT):
  i9 ds r j (e,s)/\∃ s',jm ds r j (e,s)=.inr (e++(if x.right=(r:Int)/\g x.since=0 then [x.no]else []),s')/\asK d.zs.length s' (if x.right=(r:Int)then A4 x g else g):=by
 obtain⟨_,_,_,s0,s1⟩:=hx.held hk;have hsl:=hs.1;have gs:=hs.get s0 s1;unfold i9 jm mF eT mH o_;rw[ex];by_cases hr:x.right=(r:Int)
 have b0:(x.right !=(r:Int))=false:=g6
 simp only[hr,bne_self_eq_false,cond_false,true_and,if_true];simp only[gs];have hlen:(e++[x.no]).length=e.length+1:=by simp
 by_cases hn:g x.since=0
 simp_all [A4];have b1:(g x.since==0)=false:=g6
 rw[b1,if_neg hn];simp only[cond_false,aoC];have hnn:=hg.nn x.since;have hle:=hg.atw g5 x.since;have r1:=hs.set (v:=0) s0 s1;have g1:Good d.zs.length (L - g x.since) (kS g x.since 0):=hg.put s0 s1 (ao7 _) (by have:=hg.tot;omega);have hgl:g x.since<=L:=aq4 (HZ hg.nn _ _ s0 s1) hg.tot;have hl1:(s.set x.since.toNat 0).length=d.zs.length:=r1.1;by_cases k1:x.kind=1
 have c1:(x.kind==1)=true:=by rw[k1];rfl
 have c2:(x.kind==2)=false:=by rw[k1];rfl
 obtain⟨a,b,c⟩:=hx.pass k1;simp only[c1,c2,cond_true,cond_false,hl1];have gt:=r1.get a b;have hto:=g1.atw g5 x.to;rw[gt,aw (n:=kS g x.since 0 x.to+g x.since) g5 g5];refine⟨λ_ _=>⟨g5,(λh=>by cases h),λ_=>⟨g5,λ_=>⟨g5,g5⟩,(λh=>by cases h)⟩⟩,_,rfl,?_⟩;unfold A4;rw[if_neg hn,if_pos k1];exact r1.set a b;have c1:(x.kind==1)=false:=g6
 by_cases k2:x.kind=2
 have c2:(x.kind==2)=true:=by rw[k2];rfl
 simp only[c1,c2,cond_true,cond_false];have E:=hx.split k2;have h0:=hnn;obtain⟨l1,l2⟩:=MU E (g x.since);generalize hn':g x.since=n at *;generalize hG:kS g x.since 0=g0 at *;generalize hS:s.set x.since.toNat 0=q0 at *;have V:∀ (i:Nat) (t:List Int×Int),i<x.parts.length->asK d.zs.length t.1 (tf (x.parts.take i) n g0)->t.2=n - eM (x.parts.take i) n->
   ((oI (x.parts.getD i default).share n)/\((0<=(x.parts.getD i default).dd/\(x.parts.getD i default).dd< (t.1.length:Int))/\(0<=(x.parts.getD i default).dd/\(x.parts.getD i default).dd< (t.1.length:Int))))/\
   asK d.zs.length (t.1.set (x.parts.getD i default).dd.toNat (i64.wrap ((t.1.getD (x.parts.getD i default).dd.toNat 0)+(ib (x.parts.getD i default).share n).1))) (tf (x.parts.take (i+1)) n g0)/\i64.wrap (t.2 - (ib (x.parts.getD i default).share n).1)=n - eM (x.parts.take (i+1)) n:=λi t hi Y q2=>by
  have hm:x.parts.getD i default∈x.parts:=g6
  obtain⟨f0,f1,f2,f3⟩:=E.fit _ hm;obtain⟨tp,tv⟩:=Sd f2 h0 (by omega:n<=1073741824);have elo:(ib (x.parts.getD i default).share n).1=loP (x.parts.getD i default) n:=tv;have hlo:=PN f2 f3 h0;obtain⟨w1,w2⟩:=t9 h0 (x.parts.take i) _ _ (E.fit.take _) g1;have key:∀ l:List Part,atp d.zs.length l->0<=eM l n:=λl=>by
   induction l with
   |nil=>grind [eM]
   |cons p r ih=>
    intro hp;obtain⟨_,_,c,e⟩:=hp p aow;have:=PN c e h0;have:=ih λq hq=>hp q (aor _ hq);grind [eM]
  have PW:∀ k,0<=eM (x.parts.take k) n/\eM (x.parts.take k) n<=eM x.parts n:=λk=>by
   have h1:=key _ (E.fit.take k);have h2:=key (x.parts.drop k) λp hp=>E.fit p (arf hp);grind [List.take_append_drop,eM]
  have u1:=PW i;have u2:=PW (i+1);rw[cw _ default hi,xw]at u2;have hv:=w1.atw g5 (x.parts.getD i default).dd;have gv:=Y.get f0 f1;have hl:=Y.1;rw[elo,gv,aw (n:=tf (x.parts.take i) n g0 (x.parts.getD i default).dd+loP (x.parts.getD i default) n) g5 g5,q2,aw g5 g5,cw _ default hi,xw,KO];exact⟨⟨tp,g5,g5⟩,Y.set f0 f1,g5⟩
 have eL:=k_ (step:=λ(O:Nat) (X:List Int×Int) =>(.inr ((X.1.set (Int.toNat ((x.parts.getD O (default:Part)).dd)) (i64.wrap ((X.1.getD (Int.toNat ((x.parts.getD O (default:Part)).dd)) (0:Int))+(ib ((x.parts.getD O (default:Part)).share) n).1))),(i64.wrap (X.2 - (ib ((x.parts.getD O (default:Part)).share) n).1))):Empty⊕(List Int×Int))) (λi t=>asK d.zs.length t.1 (tf (x.parts.take i) n g0)/\t.2=n - eM (x.parts.take i) n) x.parts.length 0 (q0,n) ⟨by grind [tf],by simp[eM]⟩ (λi t _ hi ⟨Y,q2⟩ =>by
  grind)
 obtain⟨⟨t1,lf⟩,e1,a1,a2⟩:=eL;rw[aou,apD]at a1 a2;simp only at a1 a2;obtain⟨Y,q2⟩:=t9 h0 x.parts _ _ E.fit g1;have W:∀ (i:Nat) (t:List Int),i<lf.toNat->asK d.zs.length t (qA (x.parts.take i) (tf x.parts n g0))->
   (((0<=(i:Int)/\(i:Int) < ((x.parts).length:Int))/\((0<=(x.parts.getD i (default:Part)).dd/\(x.parts.getD i (default:Part)).dd< (t.length:Int))/\(0<=(x.parts.getD i (default:Part)).dd/\(x.parts.getD i (default:Part)).dd< (t.length:Int)))))/\
   asK d.zs.length (t.set (x.parts.getD i default).dd.toNat (i64.wrap ((t.getD (x.parts.getD i default).dd.toNat 0)+1))) (qA (x.parts.take (i+1)) (tf x.parts n g0)):=λi t hi p1=>by
  have hi':i<x.parts.length:=g5
  have hm:x.parts.getD i default∈x.parts:=g6
  obtain⟨f0,f1,f2,f3⟩:=E.fit _ hm;obtain⟨w1,w2⟩:=xx (x.parts.take i) _ _ (E.fit.take _) Y;have hlen:(x.parts.take i).length=i:=g6
  have hv:=w1.atw g5 (x.parts.getD i default).dd;have gv:=p1.get f0 f1;have hl:=p1.1;rw[gv,aw g5 g5,cw _ default hi',H3];exact⟨⟨⟨g5,g5⟩,⟨g5,g5⟩⟩,p1.set f0 f1⟩
 obtain⟨t2,e2,b1⟩:=k_ (step:=λ(k_2:Nat) (s_2:List Int) =>(.inr (s_2.set (Int.toNat ((x.parts.getD k_2 (default:Part)).dd)) (i64.wrap ((s_2.getD (Int.toNat ((x.parts.getD k_2 (default:Part)).dd)) (0:Int))+1))):Empty⊕(List Int))) (λi t=>asK d.zs.length t (qA (x.parts.take i) (tf x.parts n g0))) lf.toNat 0 t1 (by grind [qA]) (λi t _ hi q=>by
  grind)
 rw[aou]at b1;rw[e1];simp only[e2];refine⟨λ_ _=>⟨g5,(λh=>by cases h),λ_=>⟨g5,(λh=>by cases h),λ_=>⟨?_,λz hz=>?_⟩⟩⟩,t2,rfl,?_⟩;refine ij (λi t=>asK d.zs.length t.1 (tf (x.parts.take i) n g0)/\t.2=n - eM (x.parts.take i) n) _ _ _ ⟨by grind [tf],by simp[eM]⟩ λi t _ hi q=>⟨λ_=>(V i t g5 q.1 q.2).1,λt' ht=>g6⟩;cases hz;have hpl:=E.len;refine⟨g5,ij (λi t=>asK d.zs.length t (qA (x.parts.take i) (tf x.parts n g0))) _ _ _ (by grind [qA]) λi t _ hi q=>⟨(W i t g5 q).1,λt' ht=>g6⟩⟩;simp_all [A4,DH];have c2:(x.kind==2)=false:=g6
 simp only[c1,c2,cond_false];simp_all [A4];grind
theorem akL(h:av d=0)(Y:arW d){ds:List bn}(hd:∀ x∈ds,Fit d x/\x.kind≠4)(hl:ds.length<=512)(hr:r<d.bh.length)(hk:(d.bh.getD r default).kind=1):
  qs d ds (r:Int)/\∃ s,fq d ds (r:Int)=(s,A5 r ds (B0 d))/\asK d.zs.length s (qB ds (B0 d) r):=by
 have O:=FI h hr hk;have hfl:=Y.zs;have hrl:=Y.bh;obtain⟨bg,bt⟩:=TT h hr hk;have hg:∀ j,Good d.zs.length (d.bh.getD r default).bl (qB (ds.take j) (B0 d) r):=λj=>(MX (ds.take j) _ (λx hx=>hd x (apm hx)) bg).1;have h0:asK d.zs.length ((List.replicate (Int.toNat (d.zs.length:Int)) (0:Int)).set (Int.toNat ((d.bh.getD (Int.toNat (r:Int)) (default:ar4)).dd)) (d.bh.getD (Int.toNat (r:Int)) (default:ar4)).bl) (B0 d r):=by
  rw[aol,aol];have h1:asK d.zs.length (List.replicate d.zs.length 0) (λ_=>0):=⟨by simp,λf hf=>g6⟩;have h2:=h1.set (v:=(d.bh.getD r default).bl) O.f0 O.f1;have e:B0 d r=kS (λ_=>0) (d.bh.getD r default).dd (d.bh.getD r default).bl:=by
   funext f
   unfold B0 kS;grind
  grind
 have E:∀ j,j<ds.length->ds.drop j=ds.getD j default::ds.drop (j+1):=λj V=>by simp_all
 have elen:∀ (l:List bn) (B:Int->Int->Int),(A5 r l B).length<=l.length:=λl=>by
  induction l with
  |nil=>grind [A5]
  |cons x l ih=>
   grind [A5]
 have step:∀ j (s:List Int×List Int),j<ds.length->s.1++A5 r (ds.drop j) (qB (ds.take j) (B0 d))=A5 r ds (B0 d)->asK d.zs.length s.2 (qB (ds.take j) (B0 d) r)->
   i9 ds r j s/\∃ s',jm ds r j s=.inr s'/\s'.1++A5 r (ds.drop (j+1)) (qB (ds.take (j+1)) (B0 d))=A5 r ds (B0 d)/\asK d.zs.length s'.2 (qB (ds.take (j+1)) (B0 d) r):=λj s V j1 j2=>by
  obtain⟨e,s⟩:=s;have hm:ds.getD j default∈ds:=g6
  have hlen:e.length<=512:=by
   grind
  obtain⟨q1,s',q2,q3⟩:=YR (ds:=ds) (j:=j) (r:=r) rfl (hd _ hm).1 (hd _ hm).2 O.l1 (e:=e) (hg j) j2 (by unfold dT;omega);refine⟨q1,_,q2,?_,?_⟩;rw[<-j1,E j V,KS ds (B0 d) V];simp only[A5];grind
  rw[KS ds (B0 d) V];show asK _ s' (if(r:Int)=(ds.getD j default).right then A4 _ (qB (ds.take j) (B0 d) r)else _);grind
 obtain⟨⟨e,s⟩,r1,W,X⟩:=k_ (step:=jm ds r) (λj s=>s.1++A5 r (ds.drop j) (qB (ds.take j) (B0 d))=A5 r ds (B0 d)/\asK d.zs.length s.2 (qB (ds.take j) (B0 d) r)) ds.length 0 ([],_) ⟨by simp[qB],h0⟩ (λj s _ V ⟨j1,j2⟩ =>by
  grind)
 rw[aou,apD]at W X;rw[aqY]at W;simp only[A5,aoC]at W X;refine⟨λ_=>⟨⟨rfl,g5,by unfold dT;omega⟩,λ_=>⟨g5,g5,?_,?_⟩⟩,s,?_,X⟩;rw[aol];simp only[List.length_replicate,aol];exact⟨O.f0,O.f1⟩;exact ij (λj s=>s.1++A5 r (ds.drop j) (qB (ds.take j) (B0 d))=A5 r ds (B0 d)/\asK d.zs.length s.2 (qB (ds.take j) (B0 d) r)) _ _ _ ⟨by simp[qB],h0⟩ λj s _ V hs=>⟨(step j s g5 hs.1 hs.2).1,λs' h=>by
  grind⟩
 grind [fq]
theorem JQ(h:B r=λ_=>0):kG d B r=[]:=by
 rw[aqE];intro x E;obtain⟨f,_,O,_⟩:=qC.1 E;grind
theorem au3 (d:ah)(l:List bn)(hour known:Int):uI d l hour known/\lu d l hour known=aD d l hour known:=by
 rw[(KR d l hour known).2];unfold uI lu;rw[TQ];cases hc:(ba d l !=0)with
 |true=>
  refine⟨⟨zM d l,(λh=>by cases h)⟩,?_⟩;grind
 |false=>
  have hc:ba d l=0:=g6
  have E:=uG hc;have hE:=((zI d l).1 hc).1;rw[if_neg (by simp[hc])];simp only[cond_false];by_cases hg:0<=hour/\hour<d.hours/\0<=known/\known<=1048576
  have e:((((decide (hour<0)) ||(decide (hour>=d.hours))) ||(decide (known<0))) ||(decide (known > 1048576)))=false:=by
   grind
  rw[e,if_pos hg];simp only[cond_false];obtain⟨c1,c2⟩:=Sg E hour known;have Y:=Cj E hour known;have V:(stS (Cb l hour known)).length<=512:=by rw[TS];exact aoA (apa _ _) E.len
  have hH:=PZ hE Y;have hB:ke d l hour known=qB (stS (Cb l hour known)) (B0 d):=rfl;have hcl:=DI E.right (ke d l hour known);have hfl:=E.right.zs;have hrl:=E.right.bh;have row:∀ (j:Nat) (s:List arI),j<d.bh.length->s=(List.range j).flatMap (kG d (ke d l hour known))->oM d l hour known j s/\pG d l hour known j s=.inr ((List.range (j+1)).flatMap (kG d (ke d l hour known))):=λj s hj O=>by
   rw[aqo,ap0,aoF,apf,aoC,<-O];have hslen:s.length<=j*600:=by
    rw[O];have:=wH (kG d (ke d l hour known)) 600 (List.range j) λr _=>aoA (apY _ _) g6;grind
   unfold oM pG;by_cases hk:(d.bh.getD j default).kind=1
   have b:((d.bh.getD j default).kind !=1)=false:=by rw[hk];rfl
   rw[b];simp only[cond_false];obtain⟨p1,q,p2,p3⟩:=akL hE E.right Y V hj hk;have X:∀ (i:Nat) (t:List arI),i<d.zs.length->t=s++(List.range i).filterMap (y9 d (ke d l hour known) j)->oL d l hour known j i t/\pF d l hour known j i t=.inr (s++(List.range (i+1)).filterMap (y9 d (ke d l hour known) j)):=λi t hi W=>by
    unfold oL pF;rw[c2,p2];have hq:q.getD i 0=ke d l hour known j i:=p3.2 i hi;simp only[hq];have htl:t.length<=s.length+i:=g6
    refine⟨λ_ _=>by grind [dT],?_⟩;rw[aqo,aqC,<-ao_,<-W];by_cases h0:0<ke d l hour known j i
    rw[decide_eq_true (show ke d l hour known j i > 0 from h0)];have e:y9 d (ke d l hour known) j i=some { right:=(j:Int),dd:=(i:Int),bl:=ke d l hour known j i,arM:=(d.bh.getD j default).arM}:=by unfold y9;grind
    grind
    rw[decide_eq_false (show ¬ke d l hour known j i > 0 from h0)];have e:y9 d (ke d l hour known) j i=none:=by unfold y9;grind
    grind
   have hql:((fq d (dJ l hour known) (j:Int)).1).length=d.zs.length:=by rw[c2,p2];exact p3.1
   obtain⟨t,u1,u2⟩:=k_ (step:=pF d l hour known j) (λi t=>t=s++(List.range i).filterMap (y9 d (ke d l hour known) j)) d.zs.length 0 s (by simp) (λi t _ hi W=>⟨_,(X i t g5 W).2,rfl⟩);rw[hql,u1];refine⟨λ_ _=>⟨g6,ij (λi t=>t=s++(List.range i).filterMap (y9 d (ke d l hour known) j)) _ _ _ (by simp) λi t _ hi W=>⟨(X i t g5 W).1,λt' h=>?_⟩⟩,?_⟩;grind
   simp only[u2,aou];rfl;have b:((d.bh.getD j default).kind !=1)=true:=g6
   rw[b];have e0:ke d l hour known j=λ_=>0:=hH.other j λhr=>hk g6;grind [JQ]
  obtain⟨s,v1,v2⟩:=k_ (step:=pG d l hour known) (λj s=>s=(List.range j).flatMap (kG d (ke d l hour known))) d.bh.length 0 [] (by simp) (λj s _ hj O=>⟨_,(row j s g5 O).2,rfl⟩);refine⟨⟨zM d l,λ_ _=>⟨c1,ij (λj s=>s=(List.range j).flatMap (kG d (ke d l hour known))) _ _ _ (by simp) λj s _ hj O=>⟨(row j s g5 O).1,λs' h=>?_⟩⟩⟩,?_⟩;grind
  rw[v1,v2,aou];rfl;have e:((((decide (hour<0)) ||(decide (hour>=d.hours))) ||(decide (known<0))) ||(decide (known > 1048576)))=true:=by
   grind
  rw[e,if_neg hg];exact⟨⟨zM d l,(λ_ h=>by cases h)⟩,rfl⟩
def YS (x:ar4)(h:Int):Bool:=decide (x.since<=h)&&decide (h<=x.to)&&decide (Int.tmod (h - x.since) x.every<x.length)
def opn (d:ah)(h:Int)(x:arI):Option Claim:=if YS (d.bh.getD (Int.toNat x.right) default) h=true then some { right:=x.right,dd:=x.dd,hour:=h,bl:=x.bl,arM:=x.arM}else none
def nL (d:ah)(l:List bn)(h k:Int):List Claim:=(aD d l h k).1.filterMap (opn d h)
structure atF (d:ah)(x:ar4):Prop where
 at3:0<=x.since
 every:1<=x.every
 avj:0<=x.arM
 avn:0<=x.dd
theorem Sh(h:av d=0){k:Nat}(V:k<d.bh.length)(W:(d.bh.getD k default).kind=1):atF d (d.bh.getD k default):=by
 have:=((sF d).1 h).2.2.2.2.2.2.2.1 k V;unfold eJ at this;rw[jt]at this;have h2:jA d (d.bh.getD k default)=true:=by
  grind
 unfold jA at h2;cases E:((!(cU (d.bh.getD k default).dd (d.zs.length:Int))) ||(!(cU (d.bh.getD k default).reach (d.reaches.length:Int)))) ||(!(aP ([0,(d.bh.getD k default).since,(d.bh.getD k default).to,(i64.wrap (d.hours - 1))])))with
 |true=>grind
 |false=>
  rw[E,show((d.bh.getD k default).kind==1)=true by rw[W];rfl]at h2;simp only[cond_true,cond_false,aoj]at h2;simp only[aoY,apC]at E;have O:=E.1.1;unfold cU at O;simp only[aoj,decide_eq_true_eq]at O;have Y:=xm h2.1.1.2;have X:=rR h2.2;have h8:=rR E.2;exact⟨g5,g5,g5,g5⟩
variable {h k:Int}{x:arI}
theorem YT(E:x∈(aD d l h k).1):av d=0/\(0<=h/\h<d.hours)/\0<=x.right/\x.right< (d.bh.length:Int)/\0<=x.dd/\x.dd< (d.zs.length:Int)/\0<x.bl/\x.bl<=1073741824/\x.arM=(d.bh.getD x.right.toNat default).arM/\(d.bh.getD x.right.toNat default).kind=1:=by
 rw[(KR d l h k).2]at E;by_cases hc:ba d l=0
 rw[if_neg (by simp[hc])]at E;by_cases V:0<=h/\h<d.hours/\0<=k/\k<=1048576
 rw[if_pos V]at E;have O:=((zI d l).1 hc).1;obtain⟨a,b,c,e,f,g,i⟩:=zN.1 E;have W:=PZ O (Cj (uG hc) h k);refine⟨O,⟨V.1,V.2.1⟩,a,b,c,e,f,?_,i,?_⟩;rw[g];exact W.le O _ _;rcases aq6 ((d.bh.getD x.right.toNat default).kind=1)with hk|hk;exact hk;have:=W.other x.right (λX=>hk X.2.2);rw[g]at f;unfold ke at f;grind
 grind
 grind
theorem YU {d:ah}{l:List bn}{h k:Int}:(aD d l h k).1.length<=600*d.bh.length/\(aD d l h k).1.length<=153600:=by
 rw[(KR d l h k).2];by_cases hc:ba d l=0
 rw[if_neg (by simp[hc])];by_cases O:0<=h/\h<d.hours/\0<=k/\k<=1048576
 rw[if_pos O];have E:=(uG hc).right;refine⟨?_,DI E _⟩;have:=wH (kG d (ke d l h k)) 600 (List.range d.bh.length) λr _=>by
  unfold kG;refine aoA (apY _ _) ?_;rw[apU];exact E.zs
 grind [sO]
 grind
 grind
theorem Vv (d:ah)(l:List bn)(h k:Int):(aD d l h k).1.Pairwise hlt:=by
 rw[(KR d l h k).2];split
 simp_all;split
 exact xy _ _;simp_all
theorem KT (d:ah)(l:List bn)(h k:Int):(nL d l h k).length<=600*d.bh.length/\(nL d l h k).length<=153600:=by
 have:= @YU d l h k;have h2:=apY (opn d h) (aD d l h k).1;unfold nL;omega
variable {c:Claim}
theorem H5(e:opn d h x=some c):YS (d.bh.getD (Int.toNat x.right) (default:ar4)) h=true/\c= { right:=x.right,dd:=x.dd,hour:=h,bl:=x.bl,arM:=x.arM}:=by
 grind [opn]
structure atd (d:ah)(h:Int)(c:Claim):Prop where
 exp:av d=0
 hour:c.hour=h
 h0:0<=h
 h1:h<d.hours
 r0:0<=c.right
 r1:c.right< (d.bh.length:Int)
 f0:0<=c.dd
 f1:c.dd< (d.zs.length:Int)
 l0:0<c.bl
 l1:c.bl<=1073741824
 arM:c.arM=(d.bh.getD c.right.toNat default).arM
 kind:(d.bh.getD c.right.toNat default).kind=1
theorem H6(hc:c∈nL d l h k):atd d h c:=by
 unfold nL at hc;rw[ars]at hc;obtain⟨x,E,e⟩:=hc;obtain⟨_,rfl⟩:=H5 e;obtain⟨a0,⟨a,b⟩,c,e,f,g,i,j,m,n⟩:=YT E;exact⟨a0,rfl,a,b,c,e,f,g,i,j,m,n⟩
theorem Ew (d:ah)(l:List bn)(h k:Int):(nL d l h k).Pairwise λa b=>¬ (a.right=b.right/\a.dd=b.dd):=by
 unfold nL;rw[aqv];refine(Vv d l h k).imp λ{a b} E x O y hy=>?_;obtain⟨_,rfl⟩:=H5 O;obtain⟨_,rfl⟩:=H5 hy;simp only[hlt,pO,and_false,or_false]at E |-;omega
theorem YV {a b:Claim}(h:¬ (a.right=b.right/\a.dd=b.dd)):tO a b\/tO b a:=by
 simp only[tO,pO,and_false,or_false];omega
theorem Si{a b:Claim}(h1:tO a b)(h2:tO b c):tO a c:=by simp only[tO,pO,and_false,or_false]at *;omega
def vR (l:List Claim)(x:Claim):List Claim:=l.takeWhile (λy=>decide (df y x<0))++x::l.dropWhile (λy=>decide (df y x<0))
def uM (d:ah)(l:List bn)(h k:Int):List Claim:=(nL d l h k).foldl vR []
theorem KU (l:List Claim)(x:Claim):(vR l x).Perm (x::l):=by
 grind [vR,List.takeWhile_append_dropWhile]
variable {l:List Claim}{x:Claim}
theorem Vw(O:l.Pairwise tO):∀ y∈l.dropWhile (λy=>decide (df y x<0)),¬tO y x:=by
 induction l with
 |nil=>simp_all
 |cons z l V=>
  rw[apc]at O;intro y hy;rw[List.dropWhile_cons]at hy;split at hy
  grind
  rename_i E;have E:¬tO z x:=λh=>E (decide_eq_true ((Ch z x).2 h));rcases aoD.1 hy with rfl|hy;exact E;exact λh=>E (Si (O.1 y hy) h)
theorem YW:∀ y∈l.takeWhile (λy=>decide (df y x<0)),tO y x:=by
 induction l with
 |nil=>simp_all
 |cons z l O=>
  intro y hy;rw[List.takeWhile_cons]at hy;split at hy
  rename_i E;rcases aoD.1 hy with rfl|hy;exact(Ch y x).1 (of_decide_eq_true E);grind
  cases hy
theorem P4(E:l.Pairwise tO)(O:∀ y∈l,¬ (x.right=y.right/\x.dd=y.dd)):(vR l x).Pairwise tO:=by
 have W:=List.takeWhile_append_dropWhile (p:=λy=>decide (df y x<0)) (l:=l);unfold vR;have h1:=YW (l:=l) (x:=x);have h2:=Vw (x:=x) E;have V:∀ y∈l.dropWhile (λy=>decide (df y x<0)),y∈l:=λy hy=>(List.dropWhile_sublist _).subset hy;have X:∀ y∈l.dropWhile (λy=>decide (df y x<0)),tO x y:=λy hy=>by
  rcases YV (O y (V y hy))with h|h <;>grind
 grind [List.pairwise_cons]
theorem H7:∀ (r s:List Claim),s.Pairwise tO->(r.Pairwise λa b=>¬ (a.right=b.right/\a.dd=b.dd))->(∀ a∈s,∀ b∈r,¬ (a.right=b.right/\a.dd=b.dd))->(r.foldl vR s).Perm (s++r)/\(r.foldl vR s).Pairwise tO
 | [],s,E,_,_=>⟨by simp,E⟩
 |x::r,s,E,hr,O=>by
  rw[apc]at hr;have W:=KU s x;obtain⟨h1,h2⟩:=H7 r (vR s x) (P4 E λy hy h=>O y hy x (by simp) ⟨h.1.symm,h.2.symm⟩) hr.2 λa X b V=>by
   grind
  grind
theorem A6 (d:ah)(l:List bn)(h k:Int):(uM d l h k).Perm (nL d l h k):=by
 have:=(H7 (nL d l h k) [] List.Pairwise.nil (Ew d l h k) (λa E=>by cases E)).1;rw[aos]at this;exact this
theorem MY (d:ah)(l:List bn)(h k:Int):(uM d l h k).Pairwise tO:=(H7 (nL d l h k) [] List.Pairwise.nil (Ew d l h k) (λa E=>by cases E)).2
def Ck{l:List bn}(a:c∈uM d l h k):atd d h c:=H6 ((A6 d l h k).subset a)
end Go.Sx
end
