/- Part of the proof that the law RefuseLess returns true and leaves its arguments as they were, for all arguments of bulk at most 1048576 (the Upto form). -/
import Derived.Test.YtaikmgjfkejlkaaGreatF113
import Derived.Test.YtaikmgjfkejlkaaGreatF108
import Derived.Test.YtaikmgjfkejlkaaGreatF109
import Derived.Test.YtaikmgjfkejlkaaGreatF107
import Derived.Test.YtaikmgjfkejlkaaGreatF112
import Derived.Test.YtaikmgjfkejlkaaGreatF111
import Derived.Shelf.SlSortCmp.NoneTotal
import Derived.Ground.SlsfProg
import Derived.Test.YtaikmgjfkejlkaaGreatProg
import Derived.Test.YtaikmgjfkejlkaaGreatF110
set_option linter.all false
set_option maxHeartbeats 4000000
set_option maxRecDepth 100000
section
namespace Go.Sx
open Go.Proofs
open IntKind (i64)
def BW {f:Nat->List W2}{step:Nat->List W2->Empty⊕List W2}:∀ (n i:Nat) (s:List W2),(∀ j s,i<=j->j<i+n->step j s=.inr (s++f j))->aj step n i s=.inr (s++(List.range' i n).flatMap f)
 |0,i,s,_=>by simp[aj]
 |n+1,i,s,h=>by
  simp only[aj,h i s (alw _) (by omega)];rw[BW n (i+1) (s++f i) λj s h1 h2=>h j s (by omega) (by omega)];simp[amV]
def Gl {f:Nat->List W2}{step:Nat->List W2->Empty⊕List W2}{p:Nat->List W2->Prop}{items:List (List SV)}:∀ (n i:Nat) (s:List W2),(∀ j s,i<=j->j<i+n->step j s=.inr (s++f j))->
  (∀ j s,i<=j->j<i+n->(s++f j).map iH<+:items->p j s)->(s++(List.range' i n).flatMap f).map iH<+:items->okI step p n i s
 |0,_,_,_,_,_=>trivial
 |n+1,i,s,h,hp,hi=>by
  rw[amV,alO,<-amt]at hi;refine⟨hp i s (alw _) (by omega) (anu (by grind) hi),λs' e=>?_⟩;rw[h i s (alw _) (by omega)]at e;simp only[amd]at e;subst e;exact Gl n (i+1) (s++f i) (λj s h1 h2=>h j s (by omega) (by omega)) (λj s h1 h2=>hp j s (by omega) (by omega)) hi
def g0P (x:Order):Bool:= !x.X2&&x.index==0
section
variable {d:ah}{l:List Order}
theorem Ph (O:apa d l):∃ s0,aj (aT l) l.length 0 ([],0)=.inr s0/\(∀ r h,ax .bn .int s0.1 (sl r h)=gj (g8 r h h) l)/\s0.2=gj g0P l:=by
 obtain⟨s,e,h1,h2⟩:=KF (step:=aT l) (λj s=>(∀ r h,ax .bn .int s.1 (sl r h)=gj (g8 r h h) (l.take j))/\s.2=gj g0P (l.take j)) l.length 0 ([],0) ⟨λ_ _=>rfl,rfl⟩ (λj s _ E ⟨h1,h2⟩ =>by
  have E:j<l.length:=by omega
  have hb:=Ri O g0P j;have W:=O.lit _ (amM E);unfold aT;rw[mC _ _ E];cases X:l[j].X2 with
  |true=>
   grind [xM,g8,g0P]
  |false=>
   have V:∀ r h,ax .bn .int (dD .bn .int s.1 (sl l[j].index l[j].hour) l[j].dd) (sl r h)=gj (g8 r h h) (l.take (j+1)):=λr h=>by
    rw[oc,xM E,h1];by_cases q:r=l[j].index/\h=l[j].hour
    obtain⟨rfl,rfl⟩:=q;have U:g8 l[j].index l[j].hour l[j].hour l[j]=true:=by grind [g8]
    rw[if_pos rfl,U,S9 O E (λx hx=>?_)];simp;unfold g8 at hx;grind
    have U:g8 r h h l[j]=false:=by
     cases hc:g8 r h h l[j]with
     |false=>rfl
     |true=>
      unfold g8 at hc;grind
    simp_all [WV]
   by_cases Y:l[j].index=0
   have hb0:(l[j].index==0)=true:=by rw[Y];rfl
   simp only[alZ,cond_true,hb0];refine⟨_,rfl,V,?_⟩;have:g0P l[j]=true:=by grind [g0P]
   rw[xM E,this,h2,az (by omega) (by omega),cond_true];have hb0:(l[j].index==0)=false:=by grind
   simp only[alZ,cond_true,hb0,cond_false];refine⟨_,rfl,V,?_⟩;grind [g0P,xM])
 grind
theorem WW (E:apa d l){s0:WM×Int}(U:∀ r h,ax .bn .int s0.1 (sl r h)=gj (g8 r h h) l)(h i:Nat)(X:h<=1000000)(n:Nat)(hn:n<=1000000):
  aj (gG d s0 h i) n 0 0=.inr (gj (g8 i ((h:Int) - n+1) h) l):=by
 obtain⟨s,e,h1⟩:=KF (step:=gG d s0 h i) (λj s=>s=gj (g8 i ((h:Int) - j+1) h) l) n 0 0 (xL (λx _=>by
   cases hc:g8 i ((h:Int) - (0:Nat)+1) h x with
   |false=>rfl
   |true=>
    unfold g8 at hc;grind)).symm (λj s _ hj V=>by
  refine⟨_,rfl,?_⟩;have O:=U (i:Int) ((h:Int) - (j:Int));unfold sl at O;have W:=WP E (i:Int) (a:=(h:Int) - j) (m:=(h:Int) - j+1) (b:=(h:Int)) (by omega) (by omega);have e3:=WO E (g8 i ((h:Int) - j) ((h:Int) - j));have Y:=WO E (g8 i ((h:Int) - j+1) h);rw[show(h:Int) - j+1 - 1=(h:Int) - j by omega]at W;rw[az (n:=(h:Int) - (j:Int)) (by omega) (by omega),O,V,az (by omega) (by omega),show(h:Int) - ((j+1:Nat):Int)+1=(h:Int) - j by omega];omega)
 grind
def bkV (d:ah)(l:List Order)(h i:Nat):List W2:=
 (if gj (g8 i h h) l > (rch d i).cap then [{ kind:=1,hour:=(h:Int),index:=(i:Int),dd:=gj (g8 i h h) l,limit:=(rch d i).cap}]else [])++
 (if gj (g8 i ((h:Int) - (rch d i).delay+1) h) l > (rch d i).aph then [{ kind:=3,hour:=(h:Int),index:=(i:Int),dd:=gj (g8 i ((h:Int) - (rch d i).delay+1) h) l,limit:=(rch d i).aph}]else [])
variable {items:List (List SV)}
theorem Rl(ho:apa d l){s0:WM×Int}(Y:∀ r h,ax .bn .int s0.1 (sl r h)=gj (g8 r h h) l){h i:Nat}(hh:h<=1000000)(hi:i<d.reaches.length)(s:List W2):
  fB d s0 h i s=.inr (s++bkV d l h i)/\((s++bkV d l h i).map iH<+:items->ir d items s0 h i s):=by
 have X:=ho.right.aqu hi;have hd1:=X.aq2;have hd2:=X.delay;have e1:=WW ho Y h i hh (Int.toNat (d.reaches.getD i (default:Reach)).delay) (by omega);have e2:=Y (i:Int) (h:Int);unfold sl at e2;have e3:((Int.toNat (d.reaches.getD i (default:Reach)).delay:Nat):Int)=(rch d (i:Int)).delay:=by
  grind
 rw[e3]at e1;have e4:d.reaches.getD i (default:Reach)=rch d (i:Int):=by rfl
 have W:(d.reaches.getD i (default:Reach)).delay<9223372036854775808:=by omega
 refine⟨?_,λE=>⟨W,λs3 U=>?_⟩⟩;grind [fB,bkV]
 rw[e1]at U;simp only[amd]at U;subst U;simp only[e2];rw[e4];unfold bkV at E;generalize gj (g8 i ((h:Int) - (rch d (i:Int)).delay+1) h) l=B at E |-;generalize gj (g8 i h h) l=A at E |-;generalize rch d (i:Int)=x at E |-;refine⟨λO=>⟨?_,λV=>?_,λq=>q⟩,λO=>⟨O,λV=>?_,λq=>q⟩⟩;rw[if_pos (of_decide_eq_true O),<-amt]at E;refine DA (anu ?_ E);grind
 rw[if_pos (of_decide_eq_true O),if_pos (of_decide_eq_true V),<-amt]at E;exact DA E;rw[if_neg (of_decide_eq_false O),if_pos (of_decide_eq_true V),alC]at E;exact DA E
def bkH (d:ah)(l:List Order)(h:Nat):List W2:=(List.range' 0 d.reaches.length).flatMap (bkV d l h)
theorem Rm(E:apa d l){s0:WM×Int}(U:∀ r h,ax .bn .int s0.1 (sl r h)=gj (g8 r h h) l){h:Nat}(O:h<=1000000)(s:List W2):
  ez d s0 h s=.inr (s++bkH d l h)/\((s++bkH d l h).map iH<+:items->iu d items s0 h s):=by
 have key:∀ j s,0<=j->j<0+d.reaches.length->fB d s0 h j s=.inr (s++bkV d l h j):=λj s _ W=>(Rl E U O (by omega) s (items:=items)).1;refine⟨?_,λV _=>?_⟩;unfold ez;rw[BW d.reaches.length 0 s key];rfl;exact Gl d.reaches.length 0 s key (λj s _ W X=>(Rl E U O (by omega) s).2 X) V
def Ni (d:ah)(l:List Order):List W2:=(List.range' 0 d.hours.toNat).flatMap (bkH d l)++(if gj g0P l > d.Y2.start then [{ kind:=4,hour:=0,index:=0,dd:=gj g0P l,limit:=d.Y2.start}]else [])
theorem Te (E:apa d l):dK l d=Ni d l/\g9 l d ((dK l d).map iH):=by
 obtain⟨s0,W,V,h0⟩:=Ph E;have hh:=E.right.hours;have key:∀ j s,0<=j->j<0+d.hours.toNat->ez d s0 j s=.inr (s++bkH d l j):=λj s _ X=>(Rm E V (by omega) s (items:=[])).1;have e1:=BW d.hours.toNat 0 [] key;have U:dK l d=Ni d l:=by
  unfold dK Ni;grind
 refine⟨U,?_⟩;rw[U];intro _ s O;rw[W]at O;simp only[amd]at O;subst O;refine⟨by omega,?_,λs1 Y=>?_⟩;refine Gl d.hours.toNat 0 [] key (λj s _ X hq=>(Rm E V (by omega) s).2 hq) ?_;grind [Ni]
 simp_all [Ni]
structure Lim (d:ah)(l:List Order):Prop where
 cap:∀ h i:Nat,h<d.hours.toNat->i<d.reaches.length->gj (g8 i h h) l<=(rch d i).cap
 aph:∀ h i:Nat,h<d.hours.toNat->i<d.reaches.length->gj (g8 i ((h:Int) - (rch d i).delay+1) h) l<=(rch d i).aph
 Y2:gj g0P l<=d.Y2.start
end
section
variable {d:ah}{c:List Claim}
theorem yG (s:List Order):bA s=true↔∃ x∈s,x.dd > 1073741824:=by
 unfold bA dQ;have E:∀ j,bU s j ()=bif decide ((s.getD j default).dd > 1073741824)then .inl (j:Int)else .inr ():=λj=>rfl;have key:∀ n i,(∀ j,i<=j->j<i+n->¬ (s.getD j default).dd > 1073741824)->aj (bU s) n i ()=.inr ():=by
  intro n;induction n with
  |zero=>intro i _;rfl
  |succ n U=>
   intro i h;simp only[aj,E];grind
 have O:∀ n i x,aj (bU s) n i ()=.inl x->0<=x/\∃ j,i<=j/\j<i+n/\(s.getD j default).dd > 1073741824:=by
  intro n;induction n with
  |zero=>grind
  |succ n U=>
   intro i x h;simp only[aj,E]at h;grind
 constructor
 grind
 rintro⟨x,V,X⟩;obtain⟨j,Y,rfl⟩:=al8 V;cases W:aj (bU s) s.length 0 ()with
 |inl x=>grind
 |inr u=>
  have h1:=ON W j (al4 _) (by omega);grind
structure ap7 (d:ah)(c:List Claim):Prop where
 chk:dP d c=0
 wide:(d.reaches.length:Int)*d.hours<=1024
 lit:∀ x∈aS c,x.dd<=1073741824
theorem Ro (h:dP d c=0):aqB c:=by
 obtain⟨_,h2,O,_⟩:=(qc d c).1 h;exact⟨h2,λa E=>Pf (O a E)⟩
theorem Gm (h:dP d c=0):apd d:=jw (by grind [qc])
theorem aae (h:dP d c=0):i64.wrap ((d.reaches.length:Int)*d.hours)=(d.reaches.length:Int)*d.hours:=by
 have:=IP (Gm h);exact az (by omega) (by omega)
theorem BX:(aZ d c).2=0↔ap7 d c:=by
 unfold aZ;by_cases h1:dP d c=0
 rw[h1];simp only[bne_self_eq_false,cond_false];rw[aae h1];by_cases h2:(d.reaches.length:Int)*d.hours > 1024
 rw[decide_eq_true h2,cond_true];constructor
 omega;intro h;have:=h.wide;omega;rw[decide_eq_false h2,cond_false];cases O:bA (aS c)with
 |true=>
  rw[cond_true];obtain⟨x,E,U⟩:=(yG _).1 O;constructor
  omega;intro h;have:=h.lit x E;omega
 |false=>
  rw[cond_false];refine⟨λ_=>⟨h1,by omega,λx E=>?_⟩,λ_=>rfl⟩;by_cases q:x.dd > 1073741824
  have:=(yG _).2 ⟨x,E,q⟩;grind
  omega
 have:(dP d c !=0)=true:=by grind
 rw[this,cond_true];exact⟨λh=>absurd h h1,λh=>absurd h.chk h1⟩
theorem IS (h:ap7 d c):aZ d c=(aS c,0):=by
 have h2:=BX.2 h;unfold aZ at h2 |-;grind
theorem WX (d:ah)(c:List Claim):lq d c:=by
 refine⟨S7 d c,λh _ _=>Ta (Ro (d:=d) ?_)⟩;simpa using h
theorem ap7.outs (h:ap7 d c):arN c (aS c):=Sx.outs (Ro h.chk)
theorem ap7.nar (h:ap7 d c):Nar d (aS c):=by
 obtain⟨h1,h2,X,_⟩:=(qc d c).1 h.chk;have E:=h.outs;refine⟨⟨h1,alQ E.len h2,λx O=>?_,E.asc⟩,h.wide⟩;obtain⟨a,ha,e1,e2⟩:=E.src x O;have W:=X a ha;unfold okC at W;simp only[alt,decide_eq_true_eq]at W;have V:=E.out x O;have Y:=E.lit x O;have U:=h.lit x O;exact⟨by omega,by omega,by omega,λ_=>by omega,λq=>(by grind),Y.2,U⟩
theorem Gn (d:ah)(c:List Claim):jA d c:=by
 refine⟨WX d c,λh=>?_⟩;have O:ap7 d c:=BX.1 (by simpa using h);have W:=IS O;rw[W];have U:=O.nar;have E:=O.outs.out;refine⟨adL _ _,λh2=>⟨λ_=>?_,λY=>?_⟩⟩;exact adO U.good.right U.good.aqj E;rcases Pc d (aS c)with⟨_,e⟩ | ⟨_,_,e⟩ | ⟨_,_,_,e⟩ | ⟨_,_,V,_,_,e⟩ | ⟨_,_,V,X,e⟩;grind
 grind
 grind
 grind
 rw[e];exact(Te X.good.aqj).2
def KL (d:ah)(c:List Claim):j5 d c:=Gn d c
structure Made (d:ah)(c:List Claim)(l:List Order):Prop where
 ask:ap7 d c
 plan:∃ gs,PL d (aS c) gs/\l=srt aN (aS c++gs)
 lim:Lim d l
end
end Go.Sx
end
section
namespace Go.Sx
open Go.Proofs Go.RowKit
open IntKind (i64)
@[go_sem] noncomputable def aaf:List SV->Option Con:=(pR .int λl=>(pE (.det True (.rc .int l))))
def WY:B1 Tryz.prog 71 aaf:=by
 refine fE (mG P0 P0) Tryz.f71 (bN λl=>(am (λE=>?_)));dsimp only[an]at E;refine⟨nbl rfl,L0,ag _,?_⟩;unfold ae Tryz.f71;exact zq2
def chz:Nat->List Int->List Int->List (List Int)
 |0,s,_=>[s]|_+1,_,[] =>[]|n+1,s,x::l=>if l.length<n then []else chz n (s++[x]) l++chz (n+1) s l
theorem Gp (s l:List Int):chz 0 s l=[s]:=by cases l <;>rfl
theorem IT:∀ (n:Nat) (s l:List Int),l.length<n->chz n s l=[]
 |0,_,_,h=>by omega
 |_+1,_,[],_=>rfl
 |n+1,s,x::l,h=>by
  simp_all [chz]
theorem Gq (n:Nat)(s:List Int)(l:List Int)(k:Nat)(E:k<l.length):chz (n+1) s (l.drop k)=if l.length - k<n+1 then []else chz n (s++[l.getD k 0]) (l.drop (k+1))++chz (n+1) s (l.drop (k+1)):=by
 have e:l.drop k=l.getD k 0::l.drop (k+1):=by
  simp_all
 rw[e];simp only[chz,amp];grind
def chc (n:Nat)(s l:List Int)(k:Nat):Nat:=(chz (n+1) s l).length - (chz (n+1) s (l.drop k)).length
def KM (n:Nat)(s l:List Int):∀ k,k<=l.length->chz (n+1) s (l.drop k) <:+chz (n+1) s l
 |0,_=>by simp
 |k+1,h=>by
  refine List.IsSuffix.trans ?_ (KM n s l k (by omega));grind [Gq,IT]
def WZ (n:Nat)(s l:List Int):chc n s l 0=0:=by simp[chc]
def W0 (n:Nat)(s l:List Int)(k:Nat)(E:k<l.length)(h:¬l.length - k<n+1):chc n s l (k+1)=chc n s l k+(chz n (s++[l.getD k 0]) (l.drop (k+1))).length:=by
 have h1:=(KM n s l k (by omega)).length_le;unfold chc;rw[Gq n s l k E,if_neg h]at h1 |-;grind
def Rp (n:Nat)(s l:List Int)(k:Nat)(h:l.length - k<n+1):chc n s l k=(chz (n+1) s l).length:=by
 grind [chc,IT]
def aag (n:Nat)(s l:List Int)(k:Nat)(O:k<l.length)(h:¬l.length - k<n+1)(j:Nat)(y:List Int)(hy:(chz n (s++[l.getD k 0]) (l.drop (k+1)))[j]? =some y):(chz (n+1) s l)[chc n s l k+j]? =some y:=by
 obtain⟨p,E⟩:=KM n s l k (by omega);have hc:chc n s l k=p.length:=by grind [chc]
 rw[hc,<-E,ann (by omega),aoh,Gq n s l k O,if_neg h,ant (alz.1 hy).1];exact hy
def chK (p:Prop)(r:RF)(k m:Nat)(h0 h2:Ob):ao3:= { α:=Bool,pre:=p,post:=λ_=>True,res:=λb=>.ret (.v (.bool b)) [h0,.ab (r.1 (if b then k+m+1 else 0)),h2]}
def Tf {ids:List Nat}{d:Option Nat}{st:St}{K:St->Prop}{Z:Value->St->Prop}{p:Prop}{r:RF}{k m:Nat}{h0 h2:Ob}:ym ids d st K Z (some (chK p r k m h0 h2))=(p/\Jc ids d st K Z (.ret (.v (.bool true)) [h0,.ab (r.1 (k+m+1)),h2])/\Jc ids d st K Z (.ret (.v (.bool false)) [h0,.ab (r.1 0),h2])):=by
 apply propext;constructor
 rintro⟨h1,h2⟩;exact⟨h1,h2 true trivial,h2 false trivial⟩;rintro⟨h1,h2,h3⟩;refine⟨h1,λb _=>?_⟩;cases b;exact h3;exact h2
attribute [go_sem] Tf
abbrev chF:Ob:=.cells [.fn 70 [] [.ptr 0 0,.ptr 2 0]]
@[go_sem high]def air {x:Res}:reach [.cells [.os 1],.ab x,.cells [.fn 70 [] [.ptr 0 0,.ptr 2 0]]] 64 [0,2] []=[0,1,2]:=(rfl)
def chP (items:List (List SV))(n:Nat)(x:List Int×List Int×Nat):Prop:=x.1.length+n<=1000/\x.2.1.length<=1000/\∀ j y,(chz n x.1 x.2.1)[j]? =some y->items[x.2.2+j]? =some [.rs .int y]
noncomputable def W3 (items:List (List SV))(r:RF)(n:Nat):List SV->List Ob->Option ao3:=jf (λx:List Int×List Int×Nat=>[.rs .int x.1,.rs .int x.2.1,.v (.int .i64 (n:Int)),.ptr 0 0,.ptr 2 0]) (λx=>[.cells [.os 1],.ab (r.1 (x.2.2+1)),chF]) (λx=>chK (chP items n x) r x.2.2 (chz n x.1 x.2.1).length (.cells [.os 1]) chF)
def Rq (items:List (List SV))(r:RF)(n:Nat)(s l:List Int)(k:Nat):W3 items r n ([.rs .int s,.rs .int l,.v (.int .i64 (n:Int)),.ptr 0 0,.ptr 2 0]) ([.cells [.os 1],.ab (r.1 (k+1)),chF])=some (chK (chP items n (s,l,k)) r k (chz n s l).length (.cells [.os 1]) chF):=
 fO (A:=λx:List Int×List Int×Nat=>[.rs .int x.1,.rs .int x.2.1,.v (.int .i64 (n:Int)),.ptr 0 0,.ptr 2 0]) (H:=λx=>[.cells [.os 1],.ab (r.1 (x.2.2+1)),chF]) (K:=λx=>chK (chP items n x) r x.2.2 (chz n x.1 x.2.1).length (.cells [.os 1]) chF) (x:=(s,l,k)) (by
  grind)
def adP (items:List (List SV))(r:RF)(hy:YOk Tryz.prog (CJ items r)):ao2 Tryz.prog 70 (W3 items r 0):=by
 have hG:=mGY P0 P0 hy;refine ow mixed aD hG (fn:=Tryz.f70) (c:=ae Tryz.f70) kr kr kr kr λl o O h E=>?_;obtain⟨⟨s,l,k⟩,rfl,rfl,rfl⟩:=dS h;clear h;refine⟨nbl rfl,L0,ag _,?_⟩;unfold ae Tryz.f70;have U:=E.2.2 0 s (by grind [Gp]);simp only[go_sem];refine⟨λ_=>⟨by omega,?_,?_⟩,λh=>absurd h (by decide)⟩;refine⟨true,_,_,[0,1,2],trivial,rfl,?_⟩;simp only[go_sem,Gp,aly,alJ,if_true,alF];refine⟨false,_,_,[0,1,2],trivial,rfl,?_⟩;simp only[go_sem,alB,if_false]
def W4 {c:Nat->Bool}{x:Nat}:∀ (m k:Nat),aj (λj (_:Unit) =>bif c j then(.inl j:Nat⊕Unit)else .inr ()) m k ()=.inl x->x<k+m/\c x=true
 |0,_,h=>by cases h
 |m+1,k,h=>by
  simp only[aj]at h;cases hc:c k with
  |true=>grind|false=>rw[hc]at h;have:=W4 m (k+1) h;grind
def adQ (items:List (List SV))(r:RF)(hy:YOk Tryz.prog (CJ items r))(n:Nat)(ih:ao2 Tryz.prog 70 (W3 items r n)):ao2 Tryz.prog 70 (W3 items r (n+1)):=by
 have hG:=mGY (cp WY P0) (co ih P0) hy;refine ow mixed aD hG (fn:=Tryz.f70) (c:=ae Tryz.f70) kr kr kr kr λl o con h E=>?_;obtain⟨⟨s,l,k⟩,rfl,rfl,rfl⟩:=dS h;clear h;have hz:(((n+1:Nat):Int) ==0)=false:=by simp;omega
 obtain⟨hs,hl,E⟩:=E;simp only at hs hl E;have hl2:l.length<=aK:=by unfold aK;omega
 have V:i64.wrap (((n+1:Nat):Int) - 1)=(n:Int):=by grind [az]
 refine⟨nbl rfl,λid st=>bif Nat.beq id 0 then some (LCY (ρ:=Nat) (σ:=Unit) 3 [] [0,1,2] (λj _=>⟨[(0,.rs .int s),(1,.rs .int l),(2,.v (.int .i64 ((n+1:Nat):Int))),(3,.ptr 0 0),(4,.ptr 2 0),(16,.v (.int .i64 (l.length:Int))),(17,.v (.int .i64 (j:Int)))],[.cells [.os 1],.ab (r.1 (k+chc n s l j+1)),chF]⟩) (λj _=>bif decide (i64.wrap ((l.length:Int) - (j:Int)) < ((n+1:Nat):Int))then .inl j else .inr ()) (λ_ _=>True) l.length () True (λ_=>.normal) (λj=>⟨[],[.cells [.os 1],.ab (r.1 (k+chc n s l j+1)),chF]⟩) ⟨[(8,.v (.bool false))],[.cells [.os 1],.ab (r.1 0),chF]⟩ st)else none,?_,?_⟩;unfold ae Tryz.f70;simp only[ak,true_and,and_true];refine sH mixed aD hG kr (λ_=>rfl) l.length rfl (λ_=>by omega) (λ_ j _ hlt _ hw hc=>⟨L0,ag _,?_⟩) (λ_ _ hc=>?_);simp only[go_sem,hc,hw,V,Rq,am7];intro hb;have hwj:i64.wrap ((l.length:Int) - (j:Int))=(l.length:Int) - (j:Int):=by grind [az]
 refine⟨λh1=>?_,λh2=>?_⟩;rw[h1];simp only[go_sem];exact fk (jl [0,1,2]);have X:¬l.length - j<n+1:=by
  grind
 have U:=W0 n s l j hlt X;refine⟨⟨by omega,by omega⟩,by grind [d9],λ_=>⟨⟨by omega,by omega,by omega⟩,by rfl,⟨?_,?_,?_⟩,?_,?_⟩⟩;grind
 grind
 intro i y hy;have:=E _ _ (aag n s l j hlt X i y hy);grind
 rw[h2];simp only[go_sem,U,<-amF];exact fk (jl [0,1,2]);exact .inr (fk (jl [0,1,2]));simp only[go_sem,hc];exact fk (jl [0,1,2]);unfold ae Tryz.f70;simp only[go_sem,hz];intro _;refine⟨⟨⟨rfl,by rw[WZ]⟩,ic _ _ _ λ_ _ _ _=>trivial⟩,λx Y=>?_,λ_ Y=>?_,?_⟩;obtain⟨hx1,W⟩:=W4 (c:=λj=>decide (i64.wrap ((l.length:Int) - (j:Int)) < ((n+1:Nat):Int))) _ _ Y;have O:=of_decide_eq_true W;rw[az (by omega) (by omega)]at O;refine⟨true,_,_,[0,1,2],trivial,rfl,?_⟩;rw[Rp n s l x (by omega)];simp only[go_sem,if_true];refine⟨true,_,_,[0,1,2],trivial,rfl,?_⟩;rw[Rp n s l l.length (by omega)];simp only[go_sem,if_true];refine⟨false,_,_,[0,1,2],trivial,rfl,?_⟩;simp only[go_sem,alB,if_false]
def abl (items:List (List SV))(r:RF)(hy:YOk Tryz.prog (CJ items r)):∀ n,ao2 Tryz.prog 70 (W3 items r n)
 |0=>adP items r hy|n+1=>adQ items r hy n (abl items r hy n)
noncomputable def W5 (items:List (List SV))(r:RF):List SV->List Ob->Option ao3:=jf (λx:List Int×Nat×Nat=>[.v (.slice none 0 0),.rs .int x.1,.v (.int .i64 (x.2.1:Int)),.ptr 0 0,.ptr 2 0]) (λx=>[.cells [.os 1],.ab (r.1 (x.2.2+1)),chF]) (λx=>chK (chP items x.2.1 ([],x.1,x.2.2)) r x.2.2 (chz x.2.1 [] x.1).length (.cells [.os 1]) chF)
@[go_sem]def ais {items:List (List SV)}{r:RF}{n k:Nat}{l:List Int}:W5 items r ([.v (.slice none 0 0),.rs .int l,.v (.int .i64 (n:Int)),.ptr 0 0,.ptr 2 0]) ([.cells [.os 1],.ab (r.1 (k+1)),.cells [.fn 70 [] [.ptr 0 0,.ptr 2 0]]])=some (chK (chP items n ([],l,k)) r k (chz n [] l).length (.cells [.os 1]) chF):=
 fO (A:=λx:List Int×Nat×Nat=>[.v (.slice none 0 0),.rs .int x.1,.v (.int .i64 (x.2.1:Int)),.ptr 0 0,.ptr 2 0]) (H:=λx=>[.cells [.os 1],.ab (r.1 (x.2.2+1)),chF]) (K:=λx=>chK (chP items x.2.1 ([],x.1,x.2.2)) r x.2.2 (chz x.2.1 [] x.1).length (.cells [.os 1]) chF) (x:=(l,n,k)) (by
  grind)
def adR (items:List (List SV))(r:RF)(hy:YOk Tryz.prog (CJ items r)):ao2 Tryz.prog 70 (W5 items r) where
 enter:=λl h c hc=>by
  simp_all
 calls:=λl h c hc V F own w vs U O=>by
  obtain⟨⟨a,n,k⟩,rfl,rfl,rfl⟩:=dS hc;refine(abl items r hy n).calls _ _ _ (Rq items r n [] a k) V F own w vs U ⟨O.1,λj s E=>?_⟩;match j,E with
  |0,E=>
   cases E;have h:=O.2 0 _ rfl;generalize vs.getD 0 undef=u at h |-;cases h;exact .rs0
  |j+1,E=>exact O.2 (j+1) s E
@[go_sem high]def af1 {x:Res}:reach [.ab x,.cells [.os 0],.cells [.fn 70 [] [.ptr 1 0,.ptr 2 0]]] 64 [1,2] []=[1,0,2]:=(rfl)
end Go.Sx
end
section
namespace Go.Sx
open Go.Proofs
open IntKind (i64)
@[go_sem] def W6 (x:List Int):List SV:=[.rs .int x]
@[go_sem] def HH:List SV->Option Con:=(pR .int λl_=>(pE (.det True (.fn 69 [] [.ep [.rs .int l_] 0]))))
def Gr:B1 Tryz.prog 30 HH:=by
 have hG:=mG P0 P0;refine fN hG Tryz.f30 [.o] (bN λE=>(am (λO=>?_)));refine⟨nbl rfl,L0,ag _,?_⟩;unfold ae Tryz.f30;simp only[go_sem,sF,sG,Nat.reduceBEq,Nat.reduceLeDiff,Nat.reduceAdd,Nat.reduceSub,Nat.reduceMul]
@[go_sem] def j6 (l_:List Int)(S2:Nat)(ly:List (List Int)):Empty⊕(List (List Int)):=.inr (ly++(chz S2 [] l_))
def kx (l_:List Int)(ao5:List (List SV))(S2:Nat)(ly:List (List Int)):Prop:=(chP ao5 S2 ([],l_,ly.length))
def fh (l_:List Int):List (List Int):=(match aj (j6 l_) (Int.toNat (i64.wrap ((l_.length:Int)+1))) 0 ([]:List (List Int))with| .inl x=>x.elim| .inr ly=>ly)
def kM (l_:List Int)(ao5:List (List SV)):Prop:=letI q0:=i64.wrap ((l_.length:Int)+1);letI q1:=j6 l_;(l_.length<=aK->((q0<9223372036854775808)/\okI q1 (kx l_ ao5) (Int.toNat q0) 0 ([]:List (List Int))/\(∀ ly,aj q1 (Int.toNat q0) 0 ([]:List (List Int))=.inr ly->(ao5.length=ly.length))))
def BY (O:List Int)(E:List (List SV))(hp:kM O E):zS Tryz.prog 69 (λy=>[y,.ep [.rs .int O] 0]) [] E:=by
 unfold kM at hp;refine Bc mixed aD (fn:=Tryz.f69) (c:=ae Tryz.f69) kr kr kr kr rfl (n:=0) rfl (G:=λV=>zT [] [(70,(W5 E V))] (CJ E V)) (λV hy=>?_) (λargs w=>by kernel_rfl);have hG:=mGY P0 (co (adR E V hy) P0) hy;refine⟨hG,nbl rfl,(λid st=>bif Nat.beq id 0 then some (LCY (ρ:=Empty) (σ:=(List (List Int))) 3 [] [0,1,2] (λX U=>⟨[(1,.ep [.rs .int O] 0),(3,.ptr 2 0),(8,.v (.int .i64 (i64.wrap ((O.length:Int)+1)))),(9,.v (.int .i64 (X:Int)))],[.ab (V.1 (U.length+1)),.cells [.os 0],.cells [.fn 70 [] [.ptr 1 0,.ptr 2 0]]]⟩) (j6 O) (kx O E) (Int.toNat (i64.wrap ((O.length:Int)+1))) ([]:List (List Int)) ((i64.wrap ((O.length:Int)+1)) <9223372036854775808) ((·.elim)) ((·.elim)) ⟨[],[.ab (V.1 0),.dead,.dead]⟩ st)else none),?_,?_⟩;unfold ae Tryz.f69;simp only[ak,true_and,and_true];refine sH mixed aD hG kr (λ_=>rfl) (i64.wrap ((O.length:Int)+1)) rfl id (λhb0 X U Y W hw hc=>⟨L0,ag _,?_⟩) (λhb0 U hc=>?_);unfold kx at W;try simp only[hw,alv]at W
 exact oI (jl [0,1,2]);exact oJ (jl [0,1,2]);unfold ae Tryz.f69;exact Mk (jl [0])
variable {l0:List Nat}{p:Prop}
theorem Nj(a0:JL l0)(h:JL l0->p:=by intro ja;(first|done|(repeat' (first|with_reducible refine And.intro ?_ ?_|((with_reducible show _≠_);first|assumption|omega|(simp_all [cq,eo];done) |grind) |with_reducible intro _)) <;>(first|done|with_reducible exact Empty.elim ‹Empty› |with_reducible assumption|rfl|omega|assumption|decide|exact fk ja|(simp only[*,cond_true,cond_false,alN,alZ,go_sem];done) |(simp only[*,cond_true,cond_false,alN,alZ,go_sem];(repeat' (first|with_reducible refine And.intro ?_ ?_|((with_reducible show _≠_);first|assumption|omega|(simp_all [cq,eo];done) |grind) |with_reducible intro _)) <;>(first|done|assumption|rfl|omega|decide|exact fk ja|(simp_all [cq,eo];done))) |(simp_all [okI,cq,eo];done) |(simp_all [cq,eo];(first|done|exact fk2 ja)) |exact fk2 ja|(simp_all only[cq,eo,cond_true,cond_false,ane,an5];(first|done|exact fk ja|exact fk2 ja|(simp only[go_sem];((repeat' (first|with_reducible refine And.intro ?_ ?_|((with_reducible show _≠_);first|assumption|omega|(simp_all [cq,eo];done) |grind) |with_reducible intro _)) <;>(first|done|rfl|exact fk ja|exact fk2 ja)))))))):p:=h a0
variable {l1:List Nat}
theorem Gs(a0:JL l0)(a1:JL l1)(h:JL l0->JL l1->p:=by intro ja jb;(first|done|(repeat' (first|with_reducible refine And.intro ?_ ?_|((with_reducible show _≠_);first|assumption|omega|(simp_all [cq,eo];done) |grind) |with_reducible intro _)) <;>(first|done|with_reducible exact Empty.elim ‹Empty› |with_reducible assumption|rfl|omega|assumption|decide|exact fk ja|exact fk jb|(simp only[*,cond_true,cond_false,alN,alZ,go_sem];done) |(simp only[*,cond_true,cond_false,alN,alZ,go_sem];(repeat' (first|with_reducible refine And.intro ?_ ?_|((with_reducible show _≠_);first|assumption|omega|(simp_all [cq,eo];done) |grind) |with_reducible intro _)) <;>(first|done|assumption|rfl|omega|decide|exact fk ja|exact fk jb|(simp_all [cq,eo];done))) |(simp_all [okI,cq,eo];done) |(simp_all [cq,eo];(first|done|exact fk2 ja|exact fk2 jb)) |exact fk2 ja|exact fk2 jb|(simp_all only[cq,eo,cond_true,cond_false,ane,an5];(first|done|exact fk ja|exact fk jb|exact fk2 ja|exact fk2 jb|(simp only[go_sem];((repeat' (first|with_reducible refine And.intro ?_ ?_|((with_reducible show _≠_);first|assumption|omega|(simp_all [cq,eo];done) |grind) |with_reducible intro _)) <;>(first|done|rfl|exact fk ja|exact fk jb|exact fk2 ja|exact fk2 jb)))))))):p:=h a0 a1
theorem Gt(a0:JL l0)(h:JL l0->p:=by intro ja;simp only[go_sem,hc,hw];all_goals exact Nj ja):p:=h a0
theorem Gu(a0:JL l0)(h:JL l0->p:=by intro ja;simp only[go_sem,hc];all_goals exact Nj ja):p:=h a0
theorem W7(a0:JL l0)(a1:JL l1)(h:JL l0->JL l1->p:=by intro ja jb;simp only[go_sem];all_goals exact Gs ja jb):p:=h a0 a1
theorem W8(a0:JL l0)(a1:JL l1)(h:JL l0->JL l1->p:=by intro ja jb;simp only[go_sem,hc,hw];all_goals exact Gs ja jb):p:=h a0 a1
theorem W9(a0:JL l0)(a1:JL l1)(h:JL l0->JL l1->p:=by intro ja jb;simp only[go_sem,hc];all_goals exact Gs ja jb):p:=h a0 a1
@[go_sem] def ky (s_:x7)(S2:Nat)(ly:List ((Int×Int)×Int)):Empty⊕(List ((Int×Int)×Int)):=.inr (dD .aoQ .int ly ((s_.d.u0.getD (Int.toNat ((s_.c.getD S2 (default:Claim)).ee)) (default:apQ)).reach,(s_.c.getD S2 (default:Claim)).hour) (i64.wrap ((ax .aoQ .int ly ((s_.d.u0.getD (Int.toNat ((s_.c.getD S2 (default:Claim)).ee)) (default:apQ)).reach,(s_.c.getD S2 (default:Claim)).hour))+(s_.c.getD S2 (default:Claim)).dd)))
def eu (s_:x7)(S2:Nat)(ly:List ((Int×Int)×Int)):Prop:=(0<=(s_.c.getD S2 (default:Claim)).ee/\(s_.c.getD S2 (default:Claim)).ee< (s_.d.u0.length:Int))
def db (s_:x7):List ((Int×Int)×Int):=(match aj (ky s_) s_.c.length 0 ([])with| .inl x=>x.elim| .inr ly=>ly)
def eA (s_:x7):Prop:=(s_.c.length<=aK->okI (ky s_) (eu s_) s_.c.length 0 ([]))
@[go_sem] def wi:List SV->Option Con:=(pD .zs λs_=>(pE (.det (eA s_) (.nm .aoQ .int (db s_)))))
theorem o_:B1 Tryz.prog 83 wi:=by
 have hG:=mG P0 P0;refine fE hG Tryz.f83 (av λE=>(am (λX=>?_)));dsimp only[an]at X;unfold eA at X;refine⟨nbl rfl,(λid st=>bif Nat.beq id 0 then some (LCR (ρ:=Empty) (σ:=(List ((Int×Int)×Int))) 2 [] [0,1] (λV O=>⟨[(1,.ptr 0 0),(3,.os 1),(8,.rs .C1 E.c),(9,.v (.int .i64 (E.c.length:Int))),(10,.v (.int .i64 (V:Int)))],[.cells (cellsOf .zs E),.mp .aoQ .int O none]⟩) (ky E) (eu E) E.c.length ([]) (E.c.length<=aK) ((·.elim)) ((·.elim)) st)else none),?_,?_⟩;unfold ae Tryz.f83;simp only[ak,true_and,and_true];refine bZ mixed aD hG kr (λ_=>rfl) (E.c.length:Int) rfl fM (λhb0 V O W U hw hc=>⟨L0,ag _,?_⟩) (λhb0 O hc=>?_);unfold eu at U;try simp only[hw,alv]at U
 exact Gt (jl [0,1]);exact Gu (jl [0,1]);unfold ae Tryz.f83;try unfold db
 exact zq2
@[go_sem] def jE (a0:x7)(ly:List A1×List ((Int×Int)×Int)×List ((Int×Int)×Bool)×Int)(k_1:Nat)(s_1:List A1×List ((Int×Int)×Int)×List ((Int×Int)×Bool)):Empty⊕(List A1×List ((Int×Int)×Int)×List ((Int×Int)×Bool)):=(bif(((ax .aoQ .int s_1.2.1 (ly.2.2.2,(k_1:Int))) ==0)&&(!(ax .aoQ .bool s_1.2.2 (ly.2.2.2,(k_1:Int)))))then .inr (s_1.1,s_1.2.1,s_1.2.2)else(bif((!(ax .aoQ .bool s_1.2.2 (ly.2.2.2,(k_1:Int))))&&(decide ((ax .aoQ .int s_1.2.1 (ly.2.2.2,(k_1:Int)))<=1073741824)))then(bif((ce (a0.d.reaches.getD (Int.toNat ly.2.2.2) (default:Reach)) (ax .aoQ .int s_1.2.1 (ly.2.2.2,(k_1:Int)))).2.1&&(decide ((i64.wrap ((k_1:Int) - (a0.d.reaches.getD (Int.toNat ly.2.2.2) (default:Reach)).delay))>=0)))then(bif(ce (a0.d.reaches.getD (Int.toNat ly.2.2.2) (default:Reach)) (ax .aoQ .int s_1.2.1 (ly.2.2.2,(k_1:Int)))).2.1 then .inr ((s_1.1++([({ reach:=ly.2.2.2,hour:=(i64.wrap ((k_1:Int) - (a0.d.reaches.getD (Int.toNat ly.2.2.2) (default:Reach)).delay)),dd:=(if(ce (a0.d.reaches.getD (Int.toNat ly.2.2.2) (default:Reach)) (ax .aoQ .int s_1.2.1 (ly.2.2.2,(k_1:Int)))).1< (a0.d.reaches.getD (Int.toNat ly.2.2.2) (default:Reach)).aoU then(a0.d.reaches.getD (Int.toNat ly.2.2.2) (default:Reach)).aoU else(ce (a0.d.reaches.getD (Int.toNat ly.2.2.2) (default:Reach)) (ax .aoQ .int s_1.2.1 (ly.2.2.2,(k_1:Int)))).1),wanted:=(ax .aoQ .int s_1.2.1 (ly.2.2.2,(k_1:Int)))}:A1)])),(dD .aoQ .int s_1.2.1 ((a0.d.reaches.getD (Int.toNat ly.2.2.2) (default:Reach)).up,(i64.wrap ((k_1:Int) - (a0.d.reaches.getD (Int.toNat ly.2.2.2) (default:Reach)).delay))) (i64.wrap ((ax .aoQ .int s_1.2.1 ((a0.d.reaches.getD (Int.toNat ly.2.2.2) (default:Reach)).up,(i64.wrap ((k_1:Int) - (a0.d.reaches.getD (Int.toNat ly.2.2.2) (default:Reach)).delay))))+(if(ce (a0.d.reaches.getD (Int.toNat ly.2.2.2) (default:Reach)) (ax .aoQ .int s_1.2.1 (ly.2.2.2,(k_1:Int)))).1< (a0.d.reaches.getD (Int.toNat ly.2.2.2) (default:Reach)).aoU then(a0.d.reaches.getD (Int.toNat ly.2.2.2) (default:Reach)).aoU else(ce (a0.d.reaches.getD (Int.toNat ly.2.2.2) (default:Reach)) (ax .aoQ .int s_1.2.1 (ly.2.2.2,(k_1:Int)))).1)))),s_1.2.2)else .inr ((s_1.1++([({ reach:=ly.2.2.2,hour:=(i64.wrap ((k_1:Int) - (a0.d.reaches.getD (Int.toNat ly.2.2.2) (default:Reach)).delay)),dd:=(if(ce (a0.d.reaches.getD (Int.toNat ly.2.2.2) (default:Reach)) (ax .aoQ .int s_1.2.1 (ly.2.2.2,(k_1:Int)))).1< (a0.d.reaches.getD (Int.toNat ly.2.2.2) (default:Reach)).aoU then(a0.d.reaches.getD (Int.toNat ly.2.2.2) (default:Reach)).aoU else(ce (a0.d.reaches.getD (Int.toNat ly.2.2.2) (default:Reach)) (ax .aoQ .int s_1.2.1 (ly.2.2.2,(k_1:Int)))).1),wanted:=(ax .aoQ .int s_1.2.1 (ly.2.2.2,(k_1:Int)))}:A1)])),s_1.2.1,(dD .aoQ .bool s_1.2.2 ((a0.d.reaches.getD (Int.toNat ly.2.2.2) (default:Reach)).up,(i64.wrap ((k_1:Int) - (a0.d.reaches.getD (Int.toNat ly.2.2.2) (default:Reach)).delay))) true)))else(bif(ce (a0.d.reaches.getD (Int.toNat ly.2.2.2) (default:Reach)) (ax .aoQ .int s_1.2.1 (ly.2.2.2,(k_1:Int)))).2.1 then .inr (s_1.1,(dD .aoQ .int s_1.2.1 ((a0.d.reaches.getD (Int.toNat ly.2.2.2) (default:Reach)).up,(i64.wrap ((k_1:Int) - (a0.d.reaches.getD (Int.toNat ly.2.2.2) (default:Reach)).delay))) (i64.wrap ((ax .aoQ .int s_1.2.1 ((a0.d.reaches.getD (Int.toNat ly.2.2.2) (default:Reach)).up,(i64.wrap ((k_1:Int) - (a0.d.reaches.getD (Int.toNat ly.2.2.2) (default:Reach)).delay))))+(if(ce (a0.d.reaches.getD (Int.toNat ly.2.2.2) (default:Reach)) (ax .aoQ .int s_1.2.1 (ly.2.2.2,(k_1:Int)))).1< (a0.d.reaches.getD (Int.toNat ly.2.2.2) (default:Reach)).aoU then(a0.d.reaches.getD (Int.toNat ly.2.2.2) (default:Reach)).aoU else(ce (a0.d.reaches.getD (Int.toNat ly.2.2.2) (default:Reach)) (ax .aoQ .int s_1.2.1 (ly.2.2.2,(k_1:Int)))).1)))),s_1.2.2)else .inr (s_1.1,s_1.2.1,(dD .aoQ .bool s_1.2.2 ((a0.d.reaches.getD (Int.toNat ly.2.2.2) (default:Reach)).up,(i64.wrap ((k_1:Int) - (a0.d.reaches.getD (Int.toNat ly.2.2.2) (default:Reach)).delay))) true))))else .inr (s_1.1,s_1.2.1,(dD .aoQ .bool s_1.2.2 ((a0.d.reaches.getD (Int.toNat ly.2.2.2) (default:Reach)).up,(i64.wrap ((k_1:Int) - (a0.d.reaches.getD (Int.toNat ly.2.2.2) (default:Reach)).delay))) true))))
def eY (a0:x7)(ly:List A1×List ((Int×Int)×Int)×List ((Int×Int)×Bool)×Int)(k_1:Nat)(s_1:List A1×List ((Int×Int)×Int)×List ((Int×Int)×Bool)):Prop:=((((ax .aoQ .int s_1.2.1 (ly.2.2.2,(k_1:Int))) ==0)&&(!(ax .aoQ .bool s_1.2.2 (ly.2.2.2,(k_1:Int)))))=false->(((!(ax .aoQ .bool s_1.2.2 (ly.2.2.2,(k_1:Int))))&&(decide ((ax .aoQ .int s_1.2.1 (ly.2.2.2,(k_1:Int)))<=1073741824)))=true->((iM (a0.d.reaches.getD (Int.toNat ly.2.2.2) (default:Reach)) (ax .aoQ .int s_1.2.1 (ly.2.2.2,(k_1:Int))))/\(((ce (a0.d.reaches.getD (Int.toNat ly.2.2.2) (default:Reach)) (ax .aoQ .int s_1.2.1 (ly.2.2.2,(k_1:Int)))).2.1&&(decide ((i64.wrap ((k_1:Int) - (a0.d.reaches.getD (Int.toNat ly.2.2.2) (default:Reach)).delay))>=0)))=true->((s_1.1++([({ reach:=ly.2.2.2,hour:=(i64.wrap ((k_1:Int) - (a0.d.reaches.getD (Int.toNat ly.2.2.2) (default:Reach)).delay)),dd:=(if(ce (a0.d.reaches.getD (Int.toNat ly.2.2.2) (default:Reach)) (ax .aoQ .int s_1.2.1 (ly.2.2.2,(k_1:Int)))).1< (a0.d.reaches.getD (Int.toNat ly.2.2.2) (default:Reach)).aoU then(a0.d.reaches.getD (Int.toNat ly.2.2.2) (default:Reach)).aoU else(ce (a0.d.reaches.getD (Int.toNat ly.2.2.2) (default:Reach)) (ax .aoQ .int s_1.2.1 (ly.2.2.2,(k_1:Int)))).1),wanted:=(ax .aoQ .int s_1.2.1 (ly.2.2.2,(k_1:Int)))}:A1)])).length*32<=d9)))))
@[go_sem] def jF (a0:x7)(S2:Nat)(ly:List A1×List ((Int×Int)×Int)×List ((Int×Int)×Bool)×Int):(List A1)⊕(List A1×List ((Int×Int)×Int)×List ((Int×Int)×Bool)×Int):=(bif(decide (ly.2.2.2>=0))then(match aj (jE a0 ly) (Int.toNat a0.d.hours) 0 (ly.1,ly.2.1,ly.2.2.1)with| .inl x=>x.elim| .inr s_1=>.inr (s_1.1,s_1.2.1,s_1.2.2,(i64.wrap (ly.2.2.2 - 1))))else .inl ly.1)
def eZ (a0:x7)(S2:Nat)(ly:List A1×List ((Int×Int)×Int)×List ((Int×Int)×Bool)×Int):Prop:=((decide (ly.2.2.2>=0))=true->((0<=ly.2.2.2/\ly.2.2.2< (a0.d.reaches.length:Int))/\((a0.d.hours<9223372036854775808)/\okI (jE a0 ly) (eY a0 ly) (Int.toNat a0.d.hours) 0 (ly.1,ly.2.1,ly.2.2.1))))
def eB (a0:x7):List A1:=(match aj (jF a0) (a0.d.reaches.length+1) 0 ([],(db a0),[],(i64.wrap ((a0.d.reaches.length:Int) - 1)))with| .inl pq=>pq| .inr ly=>default)
def eP (a0:x7):Prop:=letI q0:=i64.wrap ((a0.d.reaches.length:Int) - 1);letI q1:=jF a0;letI q2:=a0.d.reaches.length+1;letI q3:=db a0;((eA a0)/\(a0.d.reaches.length<=aK->(okI q1 (eZ a0) q2 0 ([],q3,[],q0)/\(∀ z_,aj q1 q2 0 ([],q3,[],q0)≠ .inr z_))))
@[go_sem] def uO:List SV->Option Con:=(pD .zs λa0=>(pE (.det (eP a0) (.rs .aoR (eB a0)))))
theorem tZ:B1 Tryz.prog 36 uO:=by
 have hG:=mG (cn [.st .zs] o_ (cp sZ P0)) P0;refine fN hG Tryz.f36 [.sl .aoR] (av λa0=>(am (λY=>?_)));dsimp only[an]at Y;unfold eP at Y;refine⟨nbl rfl,(λid st=>bif Nat.beq id 0 then some (LCV (ρ:=(List A1)) (σ:=(List A1×List ((Int×Int)×Int)×List ((Int×Int)×Bool)×Int)) 3 [.slot 2 (.row .aoR ([]))] [0,1,2,3] (λX E=>⟨[(1,.ptr 0 0),(2,.os 3),(3,.os 1),(4,.os 2),(5,.v (.int .i64 E.2.2.2))],[.cells (cellsOf .zs a0),.mp .aoQ .int E.2.1 none,.mp .aoQ .bool E.2.2.1 none,.row .aoR E.1]⟩) (jF a0) (eZ a0) (a0.d.reaches.length+1) ([],(db a0),[],(i64.wrap ((a0.d.reaches.length:Int) - 1))) (λ_=>.normal) (λU=>⟨[(2,.os 3)],[.dead,.dead,.dead,.row .aoR U]⟩) st)else none),?_,?_⟩;unfold ae Tryz.f36;simp only[ak,true_and,and_true];refine eQ mixed aD hG kr (λ_=>rfl) λX E W=>⟨(λid st=>bif Nat.beq id 2 then some (LCR (ρ:=Empty) (σ:=(List A1×List ((Int×Int)×Int)×List ((Int×Int)×Bool))) 5 [] [0,1,2,3,4,3] (λV O=>⟨[(1,.ptr 0 0),(2,.os 5),(3,.os 1),(4,.os 2),(5,.v (.int .i64 E.2.2.2)),(6,.ptr 4 0),(32,.v (.int .i64 a0.d.hours)),(33,.v (.int .i64 (V:Int)))],[.cells (cellsOf .zs a0),.mp .aoQ .int O.2.1 none,.mp .aoQ .bool O.2.2 none,.dead,.cells (cellsOf .reach (a0.d.reaches.getD (Int.toNat E.2.2.2) (default:Reach))),.row .aoR O.1]⟩) (jE a0 E) (eY a0 E) (Int.toNat a0.d.hours) (E.1,E.2.1,E.2.2.1) (a0.d.hours<9223372036854775808) ((·.elim)) ((·.elim)) st)else none),?_,?_⟩;simp only[ak,true_and,and_true];refine bZ mixed aD hG kr (λ_=>rfl) a0.d.hours rfl id (λhb1 V O aqc hq1 hw hc=>⟨L0,ag _,?_⟩) (λhb1 O hc=>?_);unfold eY at hq1;try simp only[hw,alv]at hq1
 exact W8 (jl [0,1,2,3,4,5]) (jl [0,1,2,3,4,9]);exact W9 (jl [0,1,2,3,4,5]) (jl [0,1,2,3,4,9]);unfold eZ at W;exact W7 (jl [0,1,2,5]) (jl [0,1,2,3]);unfold ae Tryz.f36;try unfold eB
 exact zq2
@[go_sem] def dl (a0:x7)(a1:List A1)(S2:Nat)(ly:List ((Int×Int)×Int)×List ((Int×Int)×Bool)):Unit⊕(List ((Int×Int)×Int)×List ((Int×Int)×Bool)):=(bif((((!(cT ((a1.getD S2 (default:A1)).reach) 0 (i64.wrap ((a0.d.reaches.length:Int) - 1)))) ||(!(cT ((a1.getD S2 (default:A1)).hour) 0 (i64.wrap (a0.d.hours - 1))))) ||(!(cT ((a1.getD S2 (default:A1)).dd) 1 1073741824))) ||(ax .aoQ .bool ly.2 ((a1.getD S2 (default:A1)).reach,(a1.getD S2 (default:A1)).hour)))then .inl ()else .inr ((dD .aoQ .int ly.1 ((a0.d.reaches.getD (Int.toNat ((a1.getD S2 (default:A1)).reach)) (default:Reach)).up,(a1.getD S2 (default:A1)).hour) (i64.wrap ((ax .aoQ .int ly.1 ((a0.d.reaches.getD (Int.toNat ((a1.getD S2 (default:A1)).reach)) (default:Reach)).up,(a1.getD S2 (default:A1)).hour))+(a1.getD S2 (default:A1)).dd))),(dD .aoQ .bool ly.2 ((a1.getD S2 (default:A1)).reach,(a1.getD S2 (default:A1)).hour) true)))
def iI (a0:x7)(a1:List A1)(S2:Nat)(ly:List ((Int×Int)×Int)×List ((Int×Int)×Bool)):Prop:=(a0.d.reaches.length<=aK->(((((!(cT ((a1.getD S2 (default:A1)).reach) 0 (i64.wrap ((a0.d.reaches.length:Int) - 1)))) ||(!(cT ((a1.getD S2 (default:A1)).hour) 0 (i64.wrap (a0.d.hours - 1))))) ||(!(cT ((a1.getD S2 (default:A1)).dd) 1 1073741824))) ||(ax .aoQ .bool ly.2 ((a1.getD S2 (default:A1)).reach,(a1.getD S2 (default:A1)).hour)))=false->(0<=(a1.getD S2 (default:A1)).reach/\(a1.getD S2 (default:A1)).reach< (a0.d.reaches.length:Int))))
@[go_sem] def fS (a0:x7)(a1:List A1)(ly:List ((Int×Int)×Int)×List ((Int×Int)×Bool))(k_1:Nat)(s_1:Unit):Unit⊕Unit:=(bif(((decide ((a1.getD k_1 (default:A1)).wanted<=0)) ||((a1.getD k_1 (default:A1)).wanted !=(ax .aoQ .int ly.1 ((a1.getD k_1 (default:A1)).reach,(i64.wrap ((a1.getD k_1 (default:A1)).hour+(a0.d.reaches.getD (Int.toNat ((a1.getD k_1 (default:A1)).reach)) (default:Reach)).delay)))))) ||(((a1.getD k_1 (default:A1)).dd !=(a0.d.reaches.getD (Int.toNat ((a1.getD k_1 (default:A1)).reach)) (default:Reach)).aoU)&&(decide ((iG (a0.d.reaches.getD (Int.toNat ((a1.getD k_1 (default:A1)).reach)) (default:Reach)) (i64.wrap ((a1.getD k_1 (default:A1)).dd - 1))).1>=(a1.getD k_1 (default:A1)).wanted))))then .inl ()else .inr ())
def iJ (a0:x7)(a1:List A1)(ly:List ((Int×Int)×Int)×List ((Int×Int)×Bool))(k_1:Nat)(s_1:Unit):Prop:=(0<=(a1.getD k_1 (default:A1)).reach/\(a1.getD k_1 (default:A1)).reach< (a0.d.reaches.length:Int))
def ct (a0:x7)(a1:List A1):List ((Int×Int)×Int)×Bool:=(match aj (dl a0 a1) a1.length 0 ((db a0),[])with| .inl pq=>([],false) | .inr ly=>(match aj (fS a0 a1 ly) a1.length 0 ()with| .inl apA=>([],false) | .inr s_1=>(ly.1,true)))
def jP (a0:x7)(a1:List A1):Prop:=letI q0:=((db a0),[]);letI q1:=dl a0 a1;((eA a0)/\(a1.length<=aK->(okI q1 (iI a0 a1) a1.length 0 q0/\(∀ ly,aj q1 a1.length 0 q0=.inr ly->(a1.length<=aK->okI (fS a0 a1 ly) (iJ a0 a1 ly) a1.length 0 ())))))
@[go_sem] def yg:List SV->Option Con:=(pD .zs λa0=>(pR .aoR λa1=>(pE (.det (jP a0 a1) (.tup [.rm .aoQ .int ((ct a0 a1).1),.v (.bool ((ct a0 a1).2))])))))
theorem xk:B1 Tryz.prog 45 yg:=by
 have hG:=mG (cp pG (cp vW (cn [.st .zs] o_ P0))) P0;refine fN hG Tryz.f45 [.mp .aoQ .int,.o] (av λa0=>(bN λa1=>(am (λhp=>?_))));dsimp only[an]at hp;unfold jP at hp;refine⟨nbl rfl,(λid st=>bif Nat.beq id 0 then some (LCR (ρ:=Unit) (σ:=(List ((Int×Int)×Int)×List ((Int×Int)×Bool))) 3 [] [0,1,2] (λW E=>⟨[(1,.rs .aoR a1),(2,.ptr 0 0),(4,.os 1),(6,.os 2),(17,.rs .aoR a1),(18,.v (.int .i64 (a1.length:Int))),(19,.v (.int .i64 (W:Int)))],[.cells (cellsOf .zs a0),.mp .aoQ .int E.1 none,.mp .aoQ .bool E.2 none]⟩) (dl a0 a1) (iI a0 a1) a1.length ((db a0),[]) (a1.length<=aK) (λ_=>.ret) (λY=>⟨[(4,.v (.map none)),(5,.v (.bool false))],[.dead,.dead,.dead]⟩) st)else bif Nat.beq id 2 then some (LCR (ρ:=Unit) (σ:=Unit) 3 [] [0,1,2] (λO U=>⟨[(2,.ptr 0 0),(4,.os 1),(82,.rs .aoR a1),(83,.v (.int .i64 (a1.length:Int))),(84,.v (.int .i64 (O:Int)))],[.cells (cellsOf .zs a0),.mp .aoQ .int (cq (aj (dl a0 a1) a1.length 0 ((db a0),[]))).1 none,.dead]⟩) (fS a0 a1 (cq (aj (dl a0 a1) a1.length 0 ((db a0),[])))) (iJ a0 a1 (cq (aj (dl a0 a1) a1.length 0 ((db a0),[])))) a1.length () (a1.length<=aK) (λ_=>.ret) (λX=>⟨[(4,.v (.map none)),(5,.v (.bool false))],[.dead,.dead,.dead]⟩) st)else none),?_,?_⟩;unfold ae Tryz.f45;simp only[ak,true_and,and_true];refine⟨?_,?_⟩;refine bZ mixed aD hG kr (λ_=>rfl) (a1.length:Int) rfl fM (λhb0 W E aqm V hw hc=>⟨L0,ag _,?_⟩) (λhb0 E hc=>?_);unfold iI at V;try simp only[hw,alv]at V
 exact Gt (jl [0,1,2]);exact Gu (jl [0,1,2]);refine bZ mixed aD hG kr (λ_=>rfl) (a1.length:Int) rfl fM (λhb1 O U aqc hq1 hw hc=>⟨L0,ag _,?_⟩) (λhb1 U hc=>?_);unfold iJ at hq1;try simp only[hw,alv]at hq1
 exact Gt (jl [0,1,2]);exact Gu (jl [0,1,2]);unfold ae Tryz.f45;try unfold ct
 exact zq2
def aC (d:ah)(l_:List bl)(fr:Int)(to:Int)(known:Int):x7×Int:=letI q0:=({ d:=({ name:=(ByteArray.mk #[]),hours:=0,Y2:=({ cap:=0,start:=0}:apV),reaches:=[],u0:=[],ao1:=[],al:=[],aoT:=[],apn:=[]}:ah),c:=[]}:x7);letI q1:=bX d l_ fr to known;letI q2:=({ d:=d,c:=q1.1}:x7);letI q3:=bK d (q1.1);(bif(q1.2 !=0)then(q0,q1.2)else(bif(q3.2.2 !=0)then(q0,q3.2.2)else(bif(decide (((aB q2).length:Int) > 10))then(q0,2)else(q2,0))))
def nu (d:ah)(l_:List bl)(fr:Int)(to:Int)(known:Int):Prop:=letI q0:=bX d l_ fr to known;((tN d l_ fr to known)/\((q0.2 !=0)=false->((lr d (q0.1))/\(((bK d (q0.1)).2.2 !=0)=false->(fA ({ d:=d,c:=q0.1}:x7))))))
@[go_sem] def HI:List SV->Option Con:=(pD .bh λd=>(pR .x6 λl_=>(pI λfr=>(pI λto=>(pI λknown=>(pE (.det (nu d l_ fr to known) (.tup [.agg (cellsOf .zs ((aC d l_ fr to known).1)),.v (.int .i64 ((aC d l_ fr to known).2))]))))))))
theorem xm:B1 Tryz.prog 29 HI:=by
 have hG:=mG (cn [.st .bh,.sl .x6,.o,.o,.o] Ks (cn [.st .zs] ko (cn [.st .bh,.sl .C1] tf P0))) P0;refine fN hG Tryz.f29 [.st .zs,.o] (av λd=>(bN λO=>(ay λfr=>(ay λto=>(ay λknown=>(am (λE=>?_)))))));dsimp only[an]at E;unfold nu at E;refine⟨nbl rfl,L0,ag _,?_⟩;unfold ae Tryz.f29;try unfold aC
 exact zq2
@[go_sem] def tP (fr:Int)(to:Int)(r:aoV)(S2:Nat)(ly:Int):Empty⊕Int:=(bif(((r.ao4.getD S2 default).reach==r.reach)&&(cT ((r.ao4.getD S2 default).hour) fr to))then .inr (i64.wrap (ly+(r.ao4.getD S2 default).dd))else .inr ly)
def mm (fr:Int)(to:Int)(r:aoV):Int:=(match aj (tP fr to r) r.ao4.length 0 0 with| .inl x=>x.elim| .inr ly=>ly)
@[go_sem] def BZ:List SV->Option Con:=(pI λfr=>(pI λto=>(pX .refusal λr=>(pE (.det True (.v (.int .i64 (mm fr to r))))))))
theorem pa:B1 Tryz.prog 47 BZ:=by
 have hG:=mG (cp pG P0) P0;refine fN hG Tryz.f47 [.o] (ay λfr=>(ay λto=>(gD λr=>(am (λV=>?_)))));dsimp only[an]at V;refine⟨nbl rfl,(λid st=>bif Nat.beq id 0 then some (LCR (ρ:=Empty) (σ:=Int) 0 [] [] (λO E=>⟨[(0,.v (.int .i64 fr)),(1,.v (.int .i64 to)),(2,.ep (cellsOf .refusal r) 0),(5,.v (.int .i64 E)),(9,.rs .aoR r.ao4),(10,.v (.int .i64 (r.ao4.length:Int))),(11,.v (.int .i64 (O:Int)))],[]⟩) (tP fr to r) pT r.ao4.length 0 (r.ao4.length<=aK) ((·.elim)) ((·.elim)) st)else none),?_,?_⟩;unfold ae Tryz.f47;simp only[ak,true_and,and_true];refine bZ mixed aD hG kr (λ_=>rfl) (r.ao4.length:Int) rfl fM (λhb0 O E U _ hw hc=>⟨L0,ag _,?_⟩) (λhb0 E hc=>?_);exact bG (jl []);exact bH (jl []);unfold ae Tryz.f47;try unfold mm
 exact zq2
def mn (r1:aoV)(r:aoV)(x:Reach):Bool:=(decide ((mm r.hour r.hour r1) > x.cap))
@[go_sem] def B3:List SV->Option Con:=(pXF 47 (pX .refusal λr1=>(pE ((pX .refusal λr=>(pX .reach λx=>(pE (.det True (.v (.bool (mn r1 r x)))))))))))
theorem AG:B1 Tryz.prog 48 B3:=by
 have hG:=mG (cp pa P0) P0;refine fN hG Tryz.f48 [.o] (zV (gD λO=>(am ((gD λr=>(gD λx=>(am (λE=>?_))))))));dsimp only[an]at E;refine⟨nbl rfl,L0,ag _,?_⟩;unfold ae Tryz.f48;try unfold mn
 exact zq2
def mo (r1:aoV)(r:aoV)(x:Reach):Bool:=(decide ((mm (i64.wrap ((i64.wrap (r.hour - x.delay))+1)) r.hour r1) > x.aph))
@[go_sem] def B4:List SV->Option Con:=(pXF 47 (pX .refusal λr1=>(pE ((pX .refusal λr=>(pX .reach λx=>(pE (.det True (.v (.bool (mo r1 r x)))))))))))
theorem AH:B1 Tryz.prog 49 B4:=by
 have hG:=mG (cp pa P0) P0;refine fN hG Tryz.f49 [.o] (zV (gD λO=>(am ((gD λr=>(gD λx=>(am (λE=>?_))))))));dsimp only[an]at E;refine⟨nbl rfl,L0,ag _,?_⟩;unfold ae Tryz.f49;try unfold mo
 exact zq2
def mq (r:aoV)(r1:aoV)(d:ah):Bool:=(((r.reach==0)&&(r.hour==0))&&(decide ((mm 0 d.hours r1) > d.Y2.start)))
@[go_sem] def B5:List SV->Option Con:=(pX .refusal λr=>(pXF 47 (pX .refusal λr1=>(pE ((pX .bh λd=>(pE (.det True (.v (.bool (mq r r1 d)))))))))))
theorem AI:B1 Tryz.prog 50 B5:=by
 have hG:=mG (cp pa P0) P0;refine fN hG Tryz.f50 [.o] (gD λr=>(zV (gD λO=>(am ((gD λd=>(am (λE=>?_))))))));dsimp only[an]at E;refine⟨nbl rfl,L0,ag _,?_⟩;unfold ae Tryz.f50;try unfold mq
 exact zq2
def pb (m:List ((Int×Int)×Int))(r:aoV)(x:Reach):Bool:=(((decide ((ax .aoQ .int m (r.reach,r.hour)) > 0))&&(decide (r.hour<x.delay))) ||(decide ((ax .aoQ .int m (r.reach,r.hour)) > (iG x 1073741824).1)))
@[go_sem] def B6:List SV->Option Con:=(pXM .aoQ .int λm=>(pX .refusal λr=>(pX .reach λx=>(pE (.det True (.v (.bool (pb m r x))))))))
theorem AJ:B1 Tryz.prog 51 B6:=by
 have hG:=mG (cp vW P0) P0;refine fN hG Tryz.f51 [.o] (JR λm=>(gD λr=>(gD λx=>(am (λE=>?_)))));dsimp only[an]at E;refine⟨nbl rfl,L0,ag _,?_⟩;unfold ae Tryz.f51;try unfold pb
 exact zq2
@[go_sem] def c6 (a0:ah)(a1:List bl)(a2:Int)(a3:Int)(a4:Int)(a5:aoV)(S2:Nat)(ly:Unit):Unit⊕Unit:=letI q0:=a5.al.getD S2 0;(bif((!(fQ (aB ((aC a0 a1 a2 a3 a4).1)) q0)) ||((decide ((S2:Int) > 0))&&(decide (q0<=(a5.al.getD (Int.toNat (i64.wrap ((S2:Int) - 1))) 0)))))then .inl ()else .inr ())
def lu (a0:ah)(a1:List bl)(a2:Int)(a3:Int)(a4:Int)(a5:aoV)(S2:Nat)(ly:Unit):Prop:=letI q0:=i64.wrap ((S2:Int) - 1);((!(fQ (aB ((aC a0 a1 a2 a3 a4).1)) (a5.al.getD S2 0)))=false->((decide ((S2:Int) > 0))=true->(0<=q0/\q0< (a5.al.length:Int))))
@[go_sem] def fK (a0:ah)(a1:List bl)(a2:Int)(a3:Int)(a4:Int)(a5:aoV)(k_1:Nat)(s_1:Unit):Bool⊕Unit:=letI q0:=a0.reaches.getD (Int.toNat a5.reach) default;(bif(Nat.beq k_1 0)then(bif(1==a5.kind)then .inl (mn a5 a5 q0)else .inr ())else(bif(Nat.beq k_1 1)then(bif(3==a5.kind)then .inl (mo a5 a5 q0)else .inr ())else(bif(Nat.beq k_1 2)then(bif(4==a5.kind)then .inl (mq a5 a5 a0)else .inr ())else(bif(7==a5.kind)then .inl (pb ((ct (dp ((aC a0 a1 a2 a3 a4).1) a5.al) a5.ao4).1) a5 q0)else .inr ()))))
def tQ (a0:ah)(a1:List bl)(a2:Int)(a3:Int)(a4:Int)(a5:aoV)(k_1:Nat)(s_1:Unit):Prop:=True
def ba (a0:ah)(a1:List bl)(a2:Int)(a3:Int)(a4:Int)(a5:aoV):Bool×Int:=letI q0:=aC a0 a1 a2 a3 a4;(bif(q0.2 !=0)then(false,q0.2)else(match aj (c6 a0 a1 a2 a3 a4 a5) a5.al.length 0 ()with| .inl pq=>(false,290) | .inr ly=>(bif(((!(ct (dp (q0.1) a5.al) a5.ao4).2) ||(!(cT a5.reach 0 (i64.wrap ((a0.reaches.length:Int) - 1))))) ||(!(cT a5.hour 0 (i64.wrap (a0.hours - 1)))))then(false,0)else(match aj (fK a0 a1 a2 a3 a4 a5) 4 0 ()with| .inl apA=>(apA,0) | .inr s_1=>(false,0)))))
def e_ (a0:ah)(a1:List bl)(a2:Int)(a3:Int)(a4:Int)(a5:aoV):Prop:=letI q0:=aC a0 a1 a2 a3 a4;letI q1:=c6 a0 a1 a2 a3 a4 a5;letI q2:=dp (q0.1) a5.al;letI q3:=(a0.reaches.length:Int);((nu a0 a1 a2 a3 a4)/\((q0.2 !=0)=false->((fA (q0.1))/\(a5.al.length<=aK->(okI q1 (lu a0 a1 a2 a3 a4 a5) a5.al.length 0 ()/\(∀ ly,aj q1 a5.al.length 0 ()=.inr ly->((jr (q0.1) a5.al)/\((jP q2 a5.ao4)/\((((!(ct q2 a5.ao4).2) ||(!(cT a5.reach 0 (i64.wrap (q3 - 1))))) ||(!(cT a5.hour 0 (i64.wrap (a0.hours - 1)))))=false->(0<=a5.reach/\a5.reach<q3))))))))))
@[go_sem] def Gv:List SV->Option Con:=(pD .bh λa0=>(pR .x6 λa1=>(pI λa2=>(pI λa3=>(pI λa4=>(pD .refusal λa5=>(pE (.det (e_ a0 a1 a2 a3 a4 a5) (.tup [.v (.bool ((ba a0 a1 a2 a3 a4 a5).1)),.v (.int .i64 ((ba a0 a1 a2 a3 a4 a5).2))])))))))))
theorem vY:B1 Tryz.prog 15 Gv:=by
 have hG:=mG (cn [.st .bh,.sl .x6,.o,.o,.o] xm (cn [.st .zs] ko (cn [.st .zs,.sl .int] sO (cn [.sl .int,.o] lT (cn [.st .zs,.sl .aoR] xk (cp pG (cp AG (cp AH (cp AI (cp AJ P0)))))))))) P0;refine fN hG Tryz.f15 [.o,.o] (av λa0=>(bN λa1=>(ay λU=>(ay λW=>(ay λV=>(av λE=>(am (λY=>?_))))))));dsimp only[an]at Y;unfold e_ at Y;refine⟨nbl rfl,(λid st=>bif Nat.beq id 0 then some (LCR (ρ:=Unit) (σ:=Unit) 3 [] [0,1,2] (λS2 ly=>⟨[(6,.ptr 0 0),(11,.ptr 1 0),(14,.ptr 2 0),(15,.rs .int (aB ((aC a0 a1 U W V).1))),(40,.rs .int E.al),(41,.v (.int .i64 (E.al.length:Int))),(42,.v (.int .i64 (S2:Int)))],[.cells (cellsOf .bh a0),.cells (cellsOf .refusal E),.cells (cellsOf .zs ((aC a0 a1 U W V).1))]⟩) (c6 a0 a1 U W V E) (lu a0 a1 U W V E) E.al.length () (E.al.length<=aK) (λ_=>.ret) (λpq=>⟨[(12,.v (.bool false)),(13,.v (.int .i64 290))],[.dead,.dead,.dead]⟩) st)else bif Nat.beq id 2 then some (LC (ρ:=Bool) (σ:=Unit) (lk 11 st.t=.ptr 1 0/\lk 113 st.t=.ls 2 [.v (.int .i64 1),.fn 48 [] [.ptr 5 0,.ptr 1 0,.ptr 4 0],.v (.int .i64 3),.fn 49 [] [.ptr 5 0,.ptr 1 0,.ptr 4 0],.v (.int .i64 4),.fn 50 [] [.ptr 1 0,.ptr 5 0,.ptr 0 0],.v (.int .i64 7),.fn 51 [] [.ptr 3 0,.ptr 1 0,.ptr 4 0]]/\lk 114 st.t=.v (.int .i64 4)/\lk 115 st.t=.v (.int .i64 0)/\st.h=[.cells (cellsOf .bh a0),.cells (cellsOf .refusal E),.cells (cellsOf .zs ((aC a0 a1 U W V).1)),.cells [.rm .aoQ .int ((ct (dp ((aC a0 a1 U W V).1) E.al) E.ao4).1)],.cells (cellsOf .reach (a0.reaches.getD (Int.toNat E.reach) (default:Reach))),.cells [.fn 47 [] [.ptr 1 0]]]) (aj (fK a0 a1 U W V E) 4 0 ()) (λ_=>.ret) (λX=>⟨[(12,.v (.bool X)),(13,.v (.int .i64 0))],[.dead,.dead,.dead,.dead,.dead,.dead]⟩) (λs_1=>⟨[],[.dead,.dead,.dead,.dead,.dead,.dead]⟩))else none),?_,?_⟩
 ·unfold ae Tryz.f15;simp only[ak,true_and,and_true];refine⟨?_,?_⟩;refine bZ mixed aD hG kr (λ_=>rfl) (E.al.length:Int) rfl fM (λhb0 S2 ly aqm hq0 hw hc=>⟨L0,ag _,?_⟩) (λhb0 ly hc=>?_);unfold lu at hq0;try simp only[hw,alv]at hq0
  exact bG (jl [0,1,2]);exact bH (jl [0,1,2])
  ·refine Sw mixed aD hG kr λst lc hC Y=>?_;simp only[go_sem,Nat.reduceBEq,alx]at hC;subst hC;obtain⟨t,h⟩:=st;dsimp only[LC]at Y;obtain⟨e1_0,e1_1,e1_2,e1_3,rfl⟩:=Y;refine⟨_,_,_,(fK a0 a1 U W V E),(tQ a0 a1 U W V E),4,(),_,_,_,(λO s_1=>⟨[(11,.ptr 1 0),(113,.ls 2 [.v (.int .i64 1),.fn 48 [] [.ptr 5 0,.ptr 1 0,.ptr 4 0],.v (.int .i64 3),.fn 49 [] [.ptr 5 0,.ptr 1 0,.ptr 4 0],.v (.int .i64 4),.fn 50 [] [.ptr 1 0,.ptr 5 0,.ptr 0 0],.v (.int .i64 7),.fn 51 [] [.ptr 3 0,.ptr 1 0,.ptr 4 0]]),(114,.v (.int .i64 4)),(115,.v (.int .i64 (O:Int)))],[.cells (cellsOf .bh a0),.cells (cellsOf .refusal E),.dead,.cells [.rm .aoQ .int ((ct (dp ((aC a0 a1 U W V).1) E.al) E.ao4).1)],.cells (cellsOf .reach (a0.reaches.getD (Int.toNat E.reach) (default:Reach))),.cells [.fn 47 [] [.ptr 1 0]]]⟩),⟨t,[.cells (cellsOf .bh a0),.cells (cellsOf .refusal E),.cells (cellsOf .zs ((aC a0 a1 U W V).1)),.cells [.rm .aoQ .int ((ct (dp ((aC a0 a1 U W V).1) E.al) E.ao4).1)],.cells (cellsOf .reach (a0.reaches.getD (Int.toNat E.reach) (default:Reach))),.cells [.fn 47 [] [.ptr 1 0]]]⟩,[0,1,2,3,4,5],rfl,ic _ _ _ λ_ _ _ _=>trivial,apE.refl _,nbl rfl,?_,λO s_1 hk1 hp1=>?_⟩
   ·simp only[go_sem,e1_0,e1_1,e1_2,e1_3];all_goals (first|done|decide|(repeat' (first|refine And.intro ?_ ?_|rfl|decide)))
   refine⟨L0,?_,?_⟩;simp only[ak,and_self,true_and,and_true]
   ·have hkk:O=0\/O=1\/O=2\/O=3\/O=4:=by omega
    have hw1_0:i64.wrap ((0:Int)+1)=((0+1:Nat):Int):=by decide
    have hw1_1:i64.wrap ((1:Int)+1)=((1+1:Nat):Int):=by decide
    have hw1_2:i64.wrap ((2:Int)+1)=((2+1:Nat):Int):=by decide
    have hw1_3:i64.wrap ((3:Int)+1)=((3+1:Nat):Int):=by decide
    rcases hkk with rfl|rfl|rfl|rfl|rfl;all_goals try (have hq1:=hp1 (by decide))
    all_goals try unfold tQ at hq1
    all_goals try simp only[go_sem,Nat.reduceBEq,Nat.reduceEqDiff,cond_true,cond_false,true_imp_iff,false_imp_iff,alB,true_and,and_true,reduceCtorEq]at hq1
    all_goals simp only[go_sem,fK,aoH,Nat.reduceLT,Nat.reduceEqDiff]
    all_goals exact uB (jl [0,1,2,3,4,5])
 unfold ae Tryz.f15;try unfold ba
 exact zq2
def gm (a0:A1)(f_:W2)(rs_:List Reach):Bool:=letI q0:=rs_.getD (Int.toNat a0.reach) default;letI q1:=a0.reach==f_.index;letI q2:=a0.hour==f_.hour;(bif(f_.kind==1)then(q1&&q2)else(bif(f_.kind==3)then((q1&&(decide (a0.hour<=f_.hour)))&&(decide (a0.hour > (i64.wrap (f_.hour - q0.delay)))))else(bif(f_.kind==4)then(a0.reach==0)else((q0.up==f_.index)&&q2))))
def fF (a0:A1)(f_:W2)(rs_:List Reach):Prop:=letI q0:=0<=a0.reach/\a0.reach< (rs_.length:Int);((f_.kind==1)=false->(((f_.kind==3)=true->(((a0.reach==f_.index)&&(decide (a0.hour<=f_.hour)))=true->q0))/\((f_.kind==3)=false->((f_.kind==4)=false->q0))))
@[go_sem] noncomputable def t6:List SV->Option Con:=(pD .aoR λa0=>(pX .fault λf_=>(pXR .reach λrs_=>(pE (.det (fF a0 f_ rs_) (.v (.bool (gm a0 f_ rs_))))))))
theorem tq:B1 Tryz.prog 77 t6:=by
 have hG:=mG P0 P0;refine fN hG Tryz.f77 [.o] (av λa0=>(gD λU=>(zW λO=>(am (λE=>?_)))));dsimp only[an]at E;unfold fF at E;refine⟨nbl rfl,L0,ag _,?_⟩;unfold ae Tryz.f77;try unfold gm
 exact zq2
def bS (a:A1)(b:A1):Int:=(jB ([(bj b.reach a.reach),(bj a.hour b.hour)]))
@[go_sem] def nv:List SV->Option Con:=(pD .aoR λa=>(pD .aoR λb=>(pE (.det True (.v (.int .i64 (bS a b)))))))
theorem tt:B1 Tryz.prog 80 nv:=by
 have hG:=mG (cn [.sl .int] yA (cp eS P0)) P0;refine fN hG Tryz.f80 [.o] (av λa=>(av λb=>(am (λE=>?_))));dsimp only[an]at E;refine⟨nbl rfl,L0,ag _,?_⟩;unfold ae Tryz.f80;try unfold bS
 exact zq2
@[go_sem] def vI (x:Int×A1):List SV:=[.v (.int .i64 x.1),.agg (cellsOf .aoR x.2)]
@[go_sem] def lG:List SV->Option Con:=(pR .aoR λs_=>(pE (.det True (.fn 135 [] [.ep [.rs .aoR s_] 0]))))
theorem lg:B1 Tryz.prog 78 lG:=by
 have hG:=mG P0 P0;refine fN hG Tryz.f78 [.o] (bN λE=>(am (λO=>?_)));refine⟨nbl rfl,L0,ag _,?_⟩;unfold ae Tryz.f78;simp only[go_sem,sF,sG,Nat.reduceBEq,Nat.reduceLeDiff,Nat.reduceAdd,Nat.reduceSub,Nat.reduceMul]
@[go_sem] def aH (s_:List A1)(S2:Nat)(ly:List (Int×A1)×Int):(List (Int×A1))⊕(List (Int×A1)×Int):=(bif(decide (ly.2>=0))then .inr ((ly.1++[(ly.2,(s_.getD (Int.toNat ly.2) default))]),(i64.wrap (ly.2 - 1)))else .inl ly.1)
def bY (s_:List A1)(ao5:List (List SV))(S2:Nat)(ly:List (Int×A1)×Int):Prop:=((decide (ly.2>=0))=true->((0<=ly.2/\ly.2< (s_.length:Int))/\(ao5[ly.1.length]? =some (vI (ly.2,(s_.getD (Int.toNat ly.2) default))))))
def aA (s_:List A1):List (Int×A1):=(match aj (aH s_) (s_.length+1) 0 (([]:List (Int×A1)),(i64.wrap ((s_.length:Int) - 1)))with| .inl pq=>pq| .inr ly=>default)
def cg (s_:List A1)(ao5:List (List SV)):Prop:=letI q0:=(([]:List (Int×A1)),(i64.wrap ((s_.length:Int) - 1)));letI q1:=aH s_;letI q2:=s_.length+1;(s_.length<=aK->(okI q1 (bY s_ ao5) q2 0 q0/\(∀ z_,aj q1 q2 0 q0≠ .inr z_)/\(∀ pq,aj q1 q2 0 q0=.inl pq->(ao5.length=pq.length))))
theorem kz (O:List A1)(E:List (List SV))(hp:cg O E):zS Tryz.prog 135 (λy=>[y,.ep [.rs .aoR O] 0]) [] E:=by
 unfold cg at hp;refine Bc mixed aD (fn:=Tryz.f135) (c:=ae Tryz.f135) kr kr kr kr rfl (n:=0) rfl (G:=λW=>zT [] [] (CJ E W)) (λW hy=>?_) (λargs w=>by kernel_rfl);have hG:=mGY P0 P0 hy;refine⟨hG,nbl rfl,(λid st=>bif Nat.beq id 0 then some (Zv (ρ:=(List (Int×A1))) (σ:=(List (Int×A1)×Int)) 1 [] [0] (λY V=>⟨[(0,.os 0),(1,.ep [.rs .aoR O] 0),(3,.v (.int .i64 V.2))],[.ab (W.1 (V.1.length+1))]⟩) (aH O) (bY O E) (O.length+1) (([]:List (Int×A1)),(i64.wrap ((O.length:Int) - 1))) (λ_=>.normal) (λU=>⟨[],[.ab (W.1 (U.length+1))]⟩) ⟨[],[.ab (W.1 0)]⟩ st)else none),?_,?_⟩;unfold ae Tryz.f135;simp only[ak,true_and,and_true];refine Im mixed aD hG kr (λ_=>rfl) λY V X=>⟨L0,ag _,?_⟩;unfold bY at X;exact Mk (jl [0]);unfold ae Tryz.f135;exact Mk (jl [0])
end Go.Sx
end
section
namespace Go.Proofs
open Go.Shelf
def Tryz.aqI:Go.Shelf.Ren:=⟨λ|6=>79|15=>133|14=>136|28=>199|29=>200|20=>201|21=>202|22=>203|23=>204|24=>205|25=>206|26=>207|27=>208|46=>264|47=>260|48=>261|49=>265|50=>266|57=>307|n=>n,λ|22=>36|24=>75|25=>150|3=>3|39=>229|0=>0|53=>294|55=>296|4=>4|46=>288|45=>287|50=>267|5=>5|9=>9|66=>342|70=>60|76=>375|77=>376|n=>n,λ|n=>n⟩
theorem Tryz.aq_:Go.Proofs.SlLaysF0.n6 Tryz.prog Tryz.aqI:= {
 mixed:=by kernel_rfl
 f6:=⟨Tryz.f79.name,by decide,Tryz.func79.trans (congrArg some (by kernel_rfl))⟩
 f14:=⟨Tryz.f136.name,by decide,Tryz.func136.trans (congrArg some (by kernel_rfl))⟩
 f15:=Tryz.func133.trans (congrArg some (by kernel_rfl))
 f20:=⟨Tryz.f201.name,by decide,Tryz.func201.trans (congrArg some (by kernel_rfl))⟩
 f21:=⟨Tryz.f202.name,by decide,Tryz.func202.trans (congrArg some (by kernel_rfl))⟩
 f22:=⟨Tryz.f203.name,by decide,Tryz.func203.trans (congrArg some (by kernel_rfl))⟩
 f23:=⟨Tryz.f204.name,by decide,Tryz.func204.trans (congrArg some (by kernel_rfl))⟩
 f24:=⟨Tryz.f205.name,by decide,Tryz.func205.trans (congrArg some (by kernel_rfl))⟩
 f25:=⟨Tryz.f206.name,by decide,Tryz.func206.trans (congrArg some (by kernel_rfl))⟩
 f26:=⟨Tryz.f207.name,by decide,Tryz.func207.trans (congrArg some (by kernel_rfl))⟩
 f27:=⟨Tryz.f208.name,by decide,Tryz.func208.trans (congrArg some (by kernel_rfl))⟩
 f28:=Tryz.func199.trans (congrArg some (by kernel_rfl))
 f29:=Tryz.func200.trans (congrArg some (by kernel_rfl))
 f46:=⟨Tryz.f264.name,by decide,Tryz.func264.trans (congrArg some (by kernel_rfl))⟩
 f47:=Tryz.func260.trans (congrArg some (by kernel_rfl))
 f48:=Tryz.func261.trans (congrArg some (by kernel_rfl))
 f49:=⟨Tryz.f265.name,by decide,Tryz.func265.trans (congrArg some (by kernel_rfl))⟩
 f50:=⟨Tryz.f266.name,by decide,Tryz.func266.trans (congrArg some (by kernel_rfl))⟩
 f57:=⟨Tryz.f307.name,by decide,Tryz.func307.trans (congrArg some (by kernel_rfl))⟩
 t0:=Tryz.underlying0
 a0:=Tryz.isAgg0
 z0:=Tryz.sizeOf0
 v0:=Tryz.zeroValue0
 t3:=Tryz.underlying3
 a3:=Tryz.isAgg3
 z3:=Tryz.sizeOf3
 v3:=Tryz.zeroValue3
 t4:=Tryz.underlying4
 a4:=Tryz.isAgg4
 z4:=Tryz.sizeOf4
 v4:=Tryz.zeroValue4
 t5:=Tryz.underlying5
 a5:=Tryz.isAgg5
 z5:=Tryz.sizeOf5
 v5:=Tryz.zeroValue5
 t9:=Tryz.underlying9
 a9:=Tryz.isAgg9
 z9:=Tryz.sizeOf9
 v9:=Tryz.zeroValue9
 t22:=Tryz.underlying36
 a22:=Tryz.isAgg36
 z22:=Tryz.sizeOf36
 v22:=Tryz.zeroValue36
 t25:=Tryz.underlying150
 a25:=Tryz.isAgg150
 z25:=Tryz.sizeOf150
 v25:=Tryz.zeroValue150
 t39:=Tryz.underlying229
 a39:=Tryz.isAgg229
 z39:=Tryz.sizeOf229
 v39:=Tryz.zeroValue229
 t45:=Tryz.underlying287
 a45:=Tryz.isAgg287
 z45:=Tryz.sizeOf287
 v45:=Tryz.zeroValue287
 t46:=Tryz.underlying288
 a46:=Tryz.isAgg288
 z46:=Tryz.sizeOf288
 v46:=Tryz.zeroValue288
 t50:=Tryz.underlying267
 a50:=Tryz.isAgg267
 z50:=Tryz.sizeOf267
 v50:=Tryz.zeroValue267
 t53:=Tryz.underlying294
 a53:=Tryz.isAgg294
 z53:=Tryz.sizeOf294
 v53:=Tryz.zeroValue294
 t55:=Tryz.underlying296
 a55:=Tryz.isAgg296
 z55:=Tryz.sizeOf296
 v55:=Tryz.zeroValue296
 t66:=Tryz.underlying342
 a66:=Tryz.isAgg342
 z66:=Tryz.sizeOf342
 v66:=Tryz.zeroValue342
 t70:=Tryz.underlying60
 a70:=Tryz.isAgg60
 z70:=Tryz.sizeOf60
 v70:=Tryz.zeroValue60
 t76:=Tryz.underlying375
 a76:=Tryz.isAgg375
 z76:=Tryz.sizeOf375
 v76:=Tryz.zeroValue375
 t77:=Tryz.underlying376
 a77:=Tryz.isAgg376
 z77:=Tryz.sizeOf376
 v77:=Tryz.zeroValue376}
end Go.Proofs
end
section
namespace Go.Sx
open Go.Lib Go.Proofs Go.RowKit Go.Shelf Go.Sort
def plt (a b:A1):Prop:=oO [(b.reach,a.reach),(a.hour,b.hour)]
def Tg (a b:A1):bS a b<0↔plt a b:=Bt [(b.reach,a.reach),(a.hour,b.hour)]
theorem Pi:SWO (ltOf bS):=J_ Tg (λx=>by simp only[plt,oO,and_false,or_false];omega) (λx y z h1 h2=>by simp only[plt,oO,and_false,or_false]at *;omega) (λx y z h1 h2=>by simp only[plt,oO,and_false,or_false]at *;omega)
noncomputable def CD:List SV->List Ob->Option ao3:=iU .aoR 80 [] bS
@[go_sem]def W_ {l0:List A1}:CD [.os 0,.fn 80 [] []] [.row .aoR l0]=some (fL (apart bS l0) (.tup []) [.row .aoR (srt bS l0)]):=mX
theorem KN:wQ .aoR:=λx s E=>by
 simp only[cellsOf,alD,amf,or_false]at E;rcases E with rfl|rfl|rfl|rfl;all_goals exact⟨_,rfl,rfl⟩
theorem Gw (x y:A1):nv (.agg (cellsOf .aoR x):: .agg (cellsOf .aoR y)::[])=some (.det True (.v (.int .i64 (bS x y)))):=by
 simp only[go_sem]
theorem KO:ao2 Tryz.prog 79 CD:=
 qJ (k:=.aoR) Tryz.aq_ (λw=>by kernel_rfl) (λw=>by kernel_rfl) KN (by decide) (g:=80) (caps:=[]) tt (cf:=bS) Gw Pi (λs E=>by cases E) ⟨default,default,Gw _ _⟩
end Go.Sx
end
section
namespace Go.Sx
open Go.Proofs
open IntKind (i64)
@[go_sem] def dU (s_:x7)(l_:List A1)(f:W2)(z_0:Int×A1)(ly:List ((Int×Int)×Bool)×List A1):Empty⊕(List ((Int×Int)×Bool)×List A1):=(bif((gm z_0.2 f s_.d.reaches) ||(ax .aoQ .bool ly.1 ((s_.d.reaches.getD (Int.toNat z_0.2.reach) (default:Reach)).up,z_0.2.hour)))then .inr ((dD .aoQ .bool ly.1 (z_0.2.reach,(i64.wrap (z_0.2.hour+(s_.d.reaches.getD (Int.toNat z_0.2.reach) (default:Reach)).delay))) true),(ly.2++([z_0.2])))else .inr (ly.1,ly.2))
def ef (s_:x7)(l_:List A1)(f:W2)(z_0:Int×A1)(ly:List ((Int×Int)×Bool)×List A1):Prop:=((fF z_0.2 f s_.d.reaches)/\(((gm z_0.2 f s_.d.reaches)=false->(0<=z_0.2.reach/\z_0.2.reach< (s_.d.reaches.length:Int)))/\(((gm z_0.2 f s_.d.reaches) ||(ax .aoQ .bool ly.1 ((s_.d.reaches.getD (Int.toNat z_0.2.reach) (default:Reach)).up,z_0.2.hour)))=true->((0<=z_0.2.reach/\z_0.2.reach< (s_.d.reaches.length:Int))/\((ly.2++([z_0.2])).length*32<=d9)))))
def fT (s_:x7)(l_:List A1)(f:W2):List A1:=(match dC (dU s_ l_ f) (aA l_) ([],[])with| .inl x=>x.elim| .inr ly=>(srt bS ly.2))
def gn (s_:x7)(l_:List A1)(f:W2):Prop:=letI q0:=aA l_;letI q1:=dU s_ l_ f;((cg l_ (q0.map vI))/\okL q1 (ef s_ l_ f) q0 ([],[])/\(∀ ly,dC q1 q0 ([],[])=.inr ly->(apart bS ly.2)))
@[go_sem] def vJ:List SV->Option Con:=(pD .zs λs_=>(pR .aoR λl_=>(pD .fault λf=>(pE (.det (gn s_ l_ f) (.nw .aoR (fT s_ l_ f)))))))
theorem ait {p:Prop}(h:p:=by simp only[go_sem,e0_0,e0_1,e0_2,e0_3,e0_4,e0_5]):p:=h
theorem aiu {l0 l1:List Nat}(a0:JL l0)(a1:JL l1){p:Prop}(h:JL l0->JL l1->p:=by intro ja jb;simp only[go_sem,dU,psT,vI,alU,alC];all_goals exact gE ja jb):p:=h a0 a1
theorem uP:B1 Tryz.prog 35 vJ:=by
 have hG:=mG (cp tq (cn [.sl .aoR] lg P0)) (co KO P0);refine fE hG Tryz.f35 (av λO=>(bN λU=>(av λf=>(am (λV=>?_)))));dsimp only[an]at V;unfold gn at V;refine⟨nbl rfl,(λid st=>bif Nat.beq id 0 then some (LC (ρ:=Empty) (σ:=List ((Int×Int)×Bool)×List A1) (lk 6 st.t=.v (.slice none 0 0)/\lk 7 st.t=.ptr 2 0/\lk 8 st.t=.ptr 3 0/\lk 9 st.t=.ptr 5 0/\lk 10 st.t=.ptr 6 0/\lk 19 st.t=.fn 135 [] [.ep [.rs .aoR U] 0]/\st.h=[.cells (cellsOf .zs O),.cells (cellsOf .fault f),.cells [.rs .reach O.d.reaches],.cells [.fn 77 [] [.ptr 1 0,.ptr 2 0]],.mp .aoQ .bool ([]) none,.cells [.os 4],.cells [.v (.slice none 0 0)]]/\cg U ((aA U).map vI)/\okL (dU O U f) (ef O U f) (aA U) ([],[])) (dC (dU O U f) (aA U) ([],[])) (λx=>x.elim) (λx=>x.elim) (λE=>⟨[(6,.v (.slice none 0 0)),(7,.ptr 2 0),(8,.ptr 3 0),(9,.ptr 5 0),(10,.ptr 6 0)],[.dead,.cells (cellsOf .fault f),.cells [.rs .reach O.d.reaches],.cells [.fn 77 [] [.ptr 1 0,.ptr 2 0]],.mp .aoQ .bool E.1 none,.cells [.os 4],.cells [.os 8],.dead,.row .aoR E.2]⟩))else none),?_,?_⟩
 ·unfold ae Tryz.f35;simp only[ak,true_and,and_true]
  ·refine yZ mixed aD hG (by decide) (by decide) kr kr λst lc Y V=>?_;simp only[go_sem,Nat.reduceBEq,alx]at Y;subst Y;obtain⟨t,h⟩:=st;dsimp only[LC]at V;obtain⟨e0_0,e0_1,e0_2,e0_3,e0_4,e0_5,rfl,hb0,W⟩:=V;refine⟨⟨t,[.cells (cellsOf .zs O),.cells (cellsOf .fault f),.cells [.rs .reach O.d.reaches],.cells [.fn 77 [] [.ptr 1 0,.ptr 2 0]],.mp .aoQ .bool ([]) none,.cells [.os 4],.cells [.os 7],.row .aoR ([])]⟩,apE.cell (h:=[.cells (cellsOf .zs O),.cells (cellsOf .fault f),.cells [.rs .reach O.d.reaches],.cells [.fn 77 [] [.ptr 1 0,.ptr 2 0]],.mp .aoQ .bool ([]) none,.cells [.os 4],.cells [.v (.slice none 0 0)]]) (i:=6) (j:=0) (.row .aoR ([])) (apE.refl _) rfl rfl (.inl ⟨_,rfl⟩),135,[.ep [.rs .aoR U] 0],Int×A1,_,_,(aA U),vI,(dU O U f),(ef O U f),_,([],[]),_,_,_,[(6,.v (.slice none 0 0)),(7,.ptr 2 0),(8,.ptr 3 0),(9,.ptr 5 0),(10,.ptr 6 0)],(λE=>[.dead,.cells (cellsOf .fault f),.cells [.rs .reach O.d.reaches],.cells [.fn 77 [] [.ptr 1 0,.ptr 2 0]],.mp .aoQ .bool E.1 none,.cells [.os 4],.cells [.os 8],.dead,.row .aoR E.2]),(λx=>x.elim),[0,1,2,3,4,5,6,7,7],?_,rfl,W,nbl rfl,?_,kz U _ hb0,λz_0 E X=>⟨rfl,L0,λl=>?_,λl=>?_,?_⟩,λE=>?_,λy=>?_⟩;exact ait
   ·simp only[go_sem,sD,jT,alO,amD,alC,alT,amG,e0_0,e0_1,e0_2,e0_3,e0_4,e0_5];all_goals (first|done|decide|(repeat' (first|refine And.intro ?_ ?_|rfl|decide)))
   simp only[ak,and_self,true_and,and_true];simp only[ak,and_self,true_and,and_true];unfold ef at X;exact aiu (jl [0,1,2,3,4,5,6,7,11]) (jl [0,1,2,3,4,5,6,7,8]);exact qT (jl [0,1,2,3,4,5,6,7,11]) (jl [0,1,2,3,4,5,6,7,8]);exact qT (jl [0,1,2,3,4,5,6,7,11]) (jl [0,1,2,3,4,5,6,7,8])
 unfold ae Tryz.f35;try unfold fT
 exact zq2
end Go.Sx
end
section
namespace Go.Sx
theorem asi {p:Prop}(h:p:=by(first|done|(repeat' (first|with_reducible refine And.intro ?_ ?_|with_reducible intro _)) <;>(first|done|with_reducible assumption|(exfalso;simp_all only[ne_eq];done) |exact cl))):p:=h
end Go.Sx
end
section
namespace Go.Sx
open Go.Proofs
open IntKind (i64)
@[go_sem] def zk:List SV->Option Con:=pR .int λl=>pE (.det (l.length*8<=d9) (.nw .int l))
theorem yh:B1 Tryz.prog 33 zk:=by
 refine fW (mG P0 P0) Tryz.f33 [(.tmp 2,.int)] (bN λl=>am λE=>?_);dsimp only[an]at E;refine⟨nbl rfl,L0,ag _,?_⟩;unfold ae Tryz.f33;simp only[go_sem];intro b U;refine⟨λh=>?_,λ_=>?_⟩;have O:=U h;subst O;rfl;first|exact E|exact⟨E,λ_=>rfl⟩
@[go_sem] def fj (a0:ah)(a1:List bl)(a2:Int)(a3:Int)(a4:Int)(z_0:List Int)(ly:Unit):(ByteArray×Int×Int×Int×List Reach×List apQ×List aqv×List ape×List aqq×List aqy×List Claim×List Int)⊕Unit:=letI q0:=dp ((aC a0 a1 a2 a3 a4).1) z_0;(bif(!(dT a0 (q0.c)).2.1)then .inl (q0.d.name,q0.d.hours,q0.d.Y2.cap,q0.d.Y2.start,q0.d.reaches,q0.d.u0,q0.d.ao1,q0.d.al,q0.d.aoT,q0.d.apn,q0.c,z_0)else .inr ())
def kO (a0:ah)(a1:List bl)(a2:Int)(a3:Int)(a4:Int)(z_0:List Int)(ly:Unit):Prop:=letI q0:=(aC a0 a1 a2 a3 a4).1;letI q1:=(dp q0 z_0).c;((jr q0 z_0)/\((j5 a0 q1)/\((!(dT a0 q1).2.1)=true->(z_0.length*8<=d9))))
def gq (a0:ah)(a1:List bl)(a2:Int)(a3:Int)(a4:Int):aoV×Bool×Int:=letI q0:=aC a0 a1 a2 a3 a4;(bif(q0.2 !=0)then(({ al:=[],kind:=0,reach:=0,hour:=0,ao4:=[]}:aoV),false,q0.2)else(bif(dT a0 ((q0.1).c)).2.1 then(({ al:=[],kind:=0,reach:=0,hour:=0,ao4:=[]}:aoV),false,0)else(match dC (fj a0 a1 a2 a3 a4) (fh (aB (q0.1))) ()with| .inl pq=>(({ al:=pq.2.2.2.2.2.2.2.2.2.2.2,kind:=((bK a0 pq.2.2.2.2.2.2.2.2.2.2.1).1).kind,reach:=((bK a0 pq.2.2.2.2.2.2.2.2.2.2.1).1).index,hour:=((bK a0 pq.2.2.2.2.2.2.2.2.2.2.1).1).hour,ao4:=(fT ({ d:=({ name:=pq.1,hours:=pq.2.1,Y2:=({ cap:=pq.2.2.1,start:=pq.2.2.2.1}:apV),reaches:=pq.2.2.2.2.1,u0:=pq.2.2.2.2.2.1,ao1:=pq.2.2.2.2.2.2.1,al:=pq.2.2.2.2.2.2.2.1,aoT:=pq.2.2.2.2.2.2.2.2.1,apn:=pq.2.2.2.2.2.2.2.2.2.1}:ah),c:=pq.2.2.2.2.2.2.2.2.2.2.1}:x7) (eB ({ d:=({ name:=pq.1,hours:=pq.2.1,Y2:=({ cap:=pq.2.2.1,start:=pq.2.2.2.1}:apV),reaches:=pq.2.2.2.2.1,u0:=pq.2.2.2.2.2.1,ao1:=pq.2.2.2.2.2.2.1,al:=pq.2.2.2.2.2.2.2.1,aoT:=pq.2.2.2.2.2.2.2.2.1,apn:=pq.2.2.2.2.2.2.2.2.2.1}:ah),c:=pq.2.2.2.2.2.2.2.2.2.2.1}:x7)) ((bK a0 pq.2.2.2.2.2.2.2.2.2.2.1).1))}:aoV),true,0) | .inr ly=>default)))
def mI (a0:ah)(a1:List bl)(a2:Int)(a3:Int)(a4:Int):Prop:=letI q2:=fj a0 a1 a2 a3 a4;letI q3:=aC a0 a1 a2 a3 a4;letI q0:=q3.1;letI q4:=aB q0;letI q1:=fh q4;((nu a0 a1 a2 a3 a4)/\((q3.2 !=0)=false->((j5 a0 (q0.c))/\((dT a0 (q0.c)).2.1=false->((fA q0)/\((kM q4 (q1.map W6))/\okL q2 (kO a0 a1 a2 a3 a4) q1 ()/\(∀ z_,dC q2 q1 ()≠ .inr z_)/\(∀ pq,dC q2 q1 ()=.inl pq->((lr a0 pq.2.2.2.2.2.2.2.2.2.2.1)/\((eP ({ d:=({ name:=pq.1,hours:=pq.2.1,Y2:=({ cap:=pq.2.2.1,start:=pq.2.2.2.1}:apV),reaches:=pq.2.2.2.2.1,u0:=pq.2.2.2.2.2.1,ao1:=pq.2.2.2.2.2.2.1,al:=pq.2.2.2.2.2.2.2.1,aoT:=pq.2.2.2.2.2.2.2.2.1,apn:=pq.2.2.2.2.2.2.2.2.2.1}:ah),c:=pq.2.2.2.2.2.2.2.2.2.2.1}:x7))/\(gn ({ d:=({ name:=pq.1,hours:=pq.2.1,Y2:=({ cap:=pq.2.2.1,start:=pq.2.2.2.1}:apV),reaches:=pq.2.2.2.2.1,u0:=pq.2.2.2.2.2.1,ao1:=pq.2.2.2.2.2.2.1,al:=pq.2.2.2.2.2.2.2.1,aoT:=pq.2.2.2.2.2.2.2.2.1,apn:=pq.2.2.2.2.2.2.2.2.2.1}:ah),c:=pq.2.2.2.2.2.2.2.2.2.2.1}:x7) (eB ({ d:=({ name:=pq.1,hours:=pq.2.1,Y2:=({ cap:=pq.2.2.1,start:=pq.2.2.2.1}:apV),reaches:=pq.2.2.2.2.1,u0:=pq.2.2.2.2.2.1,ao1:=pq.2.2.2.2.2.2.1,al:=pq.2.2.2.2.2.2.2.1,aoT:=pq.2.2.2.2.2.2.2.2.1,apn:=pq.2.2.2.2.2.2.2.2.2.1}:ah),c:=pq.2.2.2.2.2.2.2.2.2.2.1}:x7)) ((bK a0 pq.2.2.2.2.2.2.2.2.2.2.1).1)))))))))))
@[go_sem] def KP:List SV->Option Con:=(pD .bh λa0=>(pR .x6 λa1=>(pI λa2=>(pI λa3=>(pI λa4=>(pE (.det (mI a0 a1 a2 a3 a4) (.tup [.agg [.nw .int (((gq a0 a1 a2 a3 a4).1).al),.v (.int .i64 (((gq a0 a1 a2 a3 a4).1).kind)),.v (.int .i64 (((gq a0 a1 a2 a3 a4).1).reach)),.v (.int .i64 (((gq a0 a1 a2 a3 a4).1).hour)),.nw .aoR (((gq a0 a1 a2 a3 a4).1).ao4)],.v (.bool ((gq a0 a1 a2 a3 a4).2.1)),.v (.int .i64 ((gq a0 a1 a2 a3 a4).2.2))]))))))))
variable {p:Prop}
theorem aiv(h:p:=by simp only[go_sem,e0_0,e0_1,e0_2,e0_3,e0_4,e0_5,e0_6]):p:=h
theorem aiw{l0 l1:List Nat}(a0:JL l0)(a1:JL l1)(h:JL l0->JL l1->p:=by intro ja jb;simp only[go_sem,fj,psT,W6,alU,alC];all_goals exact gE ja jb):p:=h a0 a1
theorem aix(h:p:=by simp only[go_sem];all_goals exact asi):p:=h
theorem HJ:B1 Tryz.prog 11 KP:=by
 have hG:=mG (cn [.st .bh,.sl .C1] AE (cn [.st .bh,.sl .x6,.o,.o,.o] xm (cn [.sl .int] Gr (cn [.st .zs] ko (cn [.st .zs,.sl .int] sO (cn [.sl .int] yh (cn [.st .bh,.sl .C1] tf (cn [.st .zs,.sl .aoR,.st .fault] uP (cn [.st .zs] tZ P0))))))))) P0;refine fW hG Tryz.f11 [(.cell 10 0,.int),(.cell 10 4,.aoR)] (av λa0=>(bN λa1=>(ay λO=>(ay λU=>(ay λV=>(am (λX=>?_)))))));dsimp only[an]at X;unfold mI at X;refine⟨nbl rfl,(λid st=>bif Nat.beq id 0 then some (LC (ρ:=ByteArray×Int×Int×Int×List Reach×List apQ×List aqv×List ape×List aqq×List aqy×List Claim×List Int) (σ:=Unit) (lk 5 st.t=.ptr 0 0/\lk 10 st.t=.ptr 1 0/\lk 11 st.t=.v (.bool false)/\lk 12 st.t=.v (.int .i64 ((aC a0 a1 O U V).2))/\lk 13 st.t=.ptr 2 0/\lk 17 st.t=.ptr 3 0/\lk 50 st.t=.fn 69 [] [.ep [.rs .int (aB ((aC a0 a1 O U V).1))] 0]/\st.h=[.cells (cellsOf .bh a0),.cells [.v (.slice none 0 0),.v (.int .i64 0),.v (.int .i64 0),.v (.int .i64 0),.v (.slice none 0 0)],.cells (cellsOf .zs ((aC a0 a1 O U V).1)),.cells [.v (.string (ByteArray.mk #[])),.v (.int .i64 0),.v (.int .i64 0),.v (.int .i64 0),.v (.slice none 0 0),.v (.slice none 0 0),.v (.slice none 0 0),.v (.slice none 0 0),.v (.slice none 0 0),.v (.slice none 0 0),.v (.slice none 0 0)]]/\kM (aB ((aC a0 a1 O U V).1)) ((fh (aB ((aC a0 a1 O U V).1))).map W6)/\okL (fj a0 a1 O U V) (kO a0 a1 O U V) (fh (aB ((aC a0 a1 O U V).1))) ()/\(∀ z_,dC (fj a0 a1 O U V) (fh (aB ((aC a0 a1 O U V).1))) ()≠ .inr z_)) (dC (fj a0 a1 O U V) (fh (aB ((aC a0 a1 O U V).1))) ()) (λ_=>.normal) (λE=>⟨[(5,.ptr 0 0),(10,.ptr 1 0),(11,.v (.bool false)),(12,.v (.int .i64 ((aC a0 a1 O U V).2))),(13,.ptr 2 0),(17,.ptr 3 0)],[.cells (cellsOf .bh a0),.cells [.os 5,.v (.int .i64 0),.v (.int .i64 0),.v (.int .i64 0),.v (.slice none 0 0)],.cells (cellsOf .zs ((aC a0 a1 O U V).1)),.cells [.v (.string E.1),.v (.int .i64 E.2.1),.v (.int .i64 E.2.2.1),.v (.int .i64 E.2.2.2.1),.rs .reach E.2.2.2.2.1,.rs .ee E.2.2.2.2.2.1,.rs .apy E.2.2.2.2.2.2.1,.rs .right E.2.2.2.2.2.2.2.1,.rs .apH E.2.2.2.2.2.2.2.2.1,.rs .apL E.2.2.2.2.2.2.2.2.2.1,.rs .C1 E.2.2.2.2.2.2.2.2.2.2.1],.dead,.row .int E.2.2.2.2.2.2.2.2.2.2.2]⟩) (λW=>⟨[(5,.ptr 0 0),(10,.ptr 1 0),(11,.v (.bool false)),(12,.v (.int .i64 ((aC a0 a1 O U V).2))),(13,.ptr 2 0),(17,.ptr 3 0)],[.cells (cellsOf .bh a0),.cells [.os 5,.v (.int .i64 0),.v (.int .i64 0),.v (.int .i64 0),.v (.slice none 0 0)],.cells (cellsOf .zs ((aC a0 a1 O U V).1)),.cells [.any,.any,.any,.any,.any,.any,.any,.any,.any,.any,.any],.dead,.row .int ([])]⟩))else none),?_,?_⟩
 ·unfold ae Tryz.f11;simp only[ak,true_and,and_true]
  ·refine yZ mixed aD hG (by decide) (by decide) kr kr λst lc hC X=>?_;simp only[go_sem,Nat.reduceBEq,alx]at hC;subst hC;obtain⟨t,h⟩:=st;dsimp only[LC]at X;obtain⟨e0_0,e0_1,e0_2,e0_3,e0_4,e0_5,e0_6,rfl,hb0,Y,hno0⟩:=X;refine⟨⟨t,[.cells (cellsOf .bh a0),.cells [.os 4,.v (.int .i64 0),.v (.int .i64 0),.v (.int .i64 0),.v (.slice none 0 0)],.cells (cellsOf .zs ((aC a0 a1 O U V).1)),.cells [.v (.string (ByteArray.mk #[])),.v (.int .i64 0),.v (.int .i64 0),.v (.int .i64 0),.v (.slice none 0 0),.v (.slice none 0 0),.v (.slice none 0 0),.v (.slice none 0 0),.v (.slice none 0 0),.v (.slice none 0 0),.v (.slice none 0 0)],.row .int ([])]⟩,apE.cell (h:=[.cells (cellsOf .bh a0),.cells [.v (.slice none 0 0),.v (.int .i64 0),.v (.int .i64 0),.v (.int .i64 0),.v (.slice none 0 0)],.cells (cellsOf .zs ((aC a0 a1 O U V).1)),.cells [.v (.string (ByteArray.mk #[])),.v (.int .i64 0),.v (.int .i64 0),.v (.int .i64 0),.v (.slice none 0 0),.v (.slice none 0 0),.v (.slice none 0 0),.v (.slice none 0 0),.v (.slice none 0 0),.v (.slice none 0 0),.v (.slice none 0 0)]]) (i:=1) (j:=0) (.row .int ([])) (apE.refl _) rfl rfl (.inl ⟨_,rfl⟩),69,[.ep [.rs .int (aB ((aC a0 a1 O U V).1))] 0],List Int,_,_,(fh (aB ((aC a0 a1 O U V).1))),W6,(fj a0 a1 O U V),(kO a0 a1 O U V),_,(),_,_,_,[(5,.ptr 0 0),(10,.ptr 1 0),(11,.v (.bool false)),(12,.v (.int .i64 ((aC a0 a1 O U V).2))),(13,.ptr 2 0),(17,.ptr 3 0)],(λW=>[.cells (cellsOf .bh a0),.cells [.os 5,.v (.int .i64 0),.v (.int .i64 0),.v (.int .i64 0),.v (.slice none 0 0)],.cells (cellsOf .zs ((aC a0 a1 O U V).1)),.cells [.any,.any,.any,.any,.any,.any,.any,.any,.any,.any,.any],.dead,.row .int ([])]),(λE=>[.cells (cellsOf .bh a0),.cells [.os 5,.v (.int .i64 0),.v (.int .i64 0),.v (.int .i64 0),.v (.slice none 0 0)],.cells (cellsOf .zs ((aC a0 a1 O U V).1)),.cells [.v (.string E.1),.v (.int .i64 E.2.1),.v (.int .i64 E.2.2.1),.v (.int .i64 E.2.2.2.1),.rs .reach E.2.2.2.2.1,.rs .ee E.2.2.2.2.2.1,.rs .apy E.2.2.2.2.2.2.1,.rs .right E.2.2.2.2.2.2.2.1,.rs .apH E.2.2.2.2.2.2.2.2.1,.rs .apL E.2.2.2.2.2.2.2.2.2.1,.rs .C1 E.2.2.2.2.2.2.2.2.2.2.1],.dead,.row .int E.2.2.2.2.2.2.2.2.2.2.2]),[0,1,2,3,4,4],?_,rfl,Y,nbl rfl,?_,BY (aB ((aC a0 a1 O U V).1)) _ hb0,λz_0 W hq0=>⟨rfl,L0,λl=>?_,λl=>?_,?_⟩,λW=>?_,λy=>?_⟩;exact aiv
   ·simp only[go_sem,sD,jT,alO,amD,alC,alT,amG,e0_0,e0_1,e0_2,e0_3,e0_4,e0_5,e0_6];all_goals (first|done|decide|(repeat' (first|refine And.intro ?_ ?_|rfl|decide)))
   simp only[ak,and_self,true_and,and_true];simp only[ak,and_self,true_and,and_true];unfold kO at hq0;exact aiw (jl [0,1,2,3,4,6]) (jl [0,1,2,3,4,5]);exact qT (jl [0,1,2,3,4,6]) (jl [0,1,2,3,4,5]);exact qT (jl [0,1,2,3,4,6]) (jl [0,1,2,3,4,5])
 unfold ae Tryz.f11;try unfold gq
 exact aix
theorem Gx (d:ah)(l:List bl)(fr to k:Int):(bX d l fr to k).1.length<=4096:=by
 rw[(F4 d l fr to k).2];grind [lim]
theorem Rr {α:Type}{step:Nat->List α->Empty⊕List α}{p:Nat->List α->Prop}(f:Nat->α)(h:∀ k s,step k s=.inr (s++[f k])):∀ (n i:Nat) (s:List α),s.length=i->(∀ k s,k<i+n->s.length=k->p k s)->okI step p n i s
 |0,_,_,_,_=>trivial
 |n+1,i,s,hs,hp=>⟨hp i s (by omega) hs,λs' e=>Rr f h n (i+1) s' (by grind) λk s h1 h2=>hp k s (by omega) h2⟩
theorem zl (s:x7)(h:s.c.length<=4096):fA s:=λ_=>
 Rr (λk=>(s.c.getD k (default:Claim)).right) (λ_ _=>rfl) _ _ _ rfl λk t h1 h2=>by
  grind [gN,d9]
def Xa (d:ah)(l:List bl)(fr to k:Int):nu d l fr to k:=
 ⟨(F4 d l fr to k).1,λ_=>⟨Gn d _,λ_=>zl _ (Gx d l fr to k)⟩⟩
theorem IU (d:ah)(c:List Claim):(bK d c).2.2=0↔ap7 d c/\(aQ d (aS c)).2.2=0:=by
 unfold bK c5;by_cases E:ap7 d c
 rw[IS E];grind
 have h1:(aZ d c).2≠0:=λq=>E (BX.1 q);grind
structure Opn (d:ah)(l:List bl)(fr to k:Int):Prop where
 err:(bX d l fr to k).2=0
 ask:ap7 d (bX d l fr to k).1
 plan:(aQ d (aS (bX d l fr to k).1)).2.2=0
 ten:((aB { d:=d,c:=(bX d l fr to k).1}).length:Int)<=10
theorem KQ (d:ah)(l:List bl)(fr to k:Int):(aC d l fr to k).2=0↔Opn d l fr to k:=by
 have O:=IU d (bX d l fr to k).1;unfold aC;by_cases h1:(bX d l fr to k).2=0
 by_cases h2:(bK d (bX d l fr to k).1).2.2=0
 by_cases W:((aB { d:=d,c:=(bX d l fr to k).1}).length:Int)<=10
 have E:decide (((aB { d:=d,c:=(bX d l fr to k).1}).length:Int) > 10)=false:=by simp;omega
 simp only[h1,h2,E,bne_self_eq_false,cond_false];exact⟨λ_=>⟨h1,(O.1 h2).1,(O.1 h2).2,W⟩,λ_=>trivial⟩;have E:decide (((aB { d:=d,c:=(bX d l fr to k).1}).length:Int) > 10)=true:=by simp;omega
 simp only[h1,h2,E,bne_self_eq_false,cond_false,cond_true];exact⟨λh=>(by cases h),λh=>absurd h.ten W⟩;have V:((bK d (bX d l fr to k).1).2.2 !=0)=true:=by grind
 simp only[h1,V,bne_self_eq_false,cond_false,cond_true];exact⟨λh=>absurd h h2,λh=>absurd (O.2 ⟨h.ask,h.plan⟩) h2⟩;have U:((bX d l fr to k).2 !=0)=true:=by grind
 simp only[U,cond_true];exact⟨λh=>absurd h h1,λh=>absurd h.err h1⟩
variable {d:ah}
theorem Gy{l:List bl}{fr to k:Int}(h:Opn d l fr to k):aC d l fr to k=({ d:=d,c:=(bX d l fr to k).1},0):=by
 have h2:=(IU d (bX d l fr to k).1).2 ⟨h.ask,h.plan⟩;have E:decide (((aB { d:=d,c:=(bX d l fr to k).1}).length:Int) > 10)=false:=by have:=h.ten;simp;omega
 unfold aC;simp only[h.err,h2,E,bne_self_eq_false,cond_false]
theorem Pj{c:List Claim}(h:ap7 d c):∀ x∈c,0<=x.ee/\x.ee< (d.u0.length:Int):=λx E=>by
 have:=((qc d c).1 h.chk).2.2.1 x E;grind [okC]
theorem Xb {s:x7}(h:∀ x∈s.c,0<=x.ee/\x.ee< (s.d.u0.length:Int)):eA s:=λ_=>
 ic _ _ _ λj t _ E=>by
  grind [eu]
theorem IV {ρ σ:Type}{step:Nat->σ->ρ⊕σ}:∀ (n i:Nat) (s:σ) {r:σ},aj step n i s=.inr r->∀ j,i<=j->j<i+n->∃ t t',step j t=.inr t'
 |0,_,_,_,_,j,h1,h2=>by omega
 |n+1,i,s,r,h,j,h1,h2=>by
  rw[aj]at h;cases e:step i s with
  |inl x=>grind
  |inr s'=>
   rw[e]at h;by_cases E:j=i
   grind
   exact IV n (i+1) s' h j (by omega) (by omega)
theorem Gz (n lo hi:Int):cT n lo hi=true↔lo<=n/\n<=hi:=by
 unfold cT;simp
theorem adS {s:x7}(h:∀ x∈s.c,0<=x.ee/\x.ee< (s.d.u0.length:Int))(V:s.d.reaches.length<=64)(l:List A1):jP s l:=by
 have hw:∀ n:Int,cT n 0 (i64.wrap ((s.d.reaches.length:Int) - 1))=true->0<=n/\n< (s.d.reaches.length:Int):=λn h=>by
  grind [Gz,az]
 refine⟨Xb h,λ_=>⟨ic _ _ _ λj t _ E=>?_,λt O _=>ic _ _ _ λj u _ E=>?_⟩⟩;grind [iI]
 obtain⟨v,U,e⟩:=IV _ _ _ O j (al4 _) E;grind [iJ,dl]
theorem tR (d:ah)(l:List bl)(fr to k:Int)(r:aoV):e_ d l fr to k r:=by
 refine⟨Xa d l fr to k,λV=>?_⟩;have E:=(KQ d l fr to k).1 (by grind);have hc:=Gx d l fr to k;have hr:=Gm E.ask.chk;have O:d.reaches.length<=64:=by
  have:=((qQ d).1 ((qc d _).1 E.ask.chk).1).1;omega
 rw[Gy E];refine⟨zl _ hc,λX=>⟨ic _ _ _ λj t _ hj=>?_,λs Y=>?_⟩⟩;grind [lu,aK,az]
 obtain⟨h1,h2⟩:=vp { d:=d,c:=(bX d l fr to k).1} r.al hc;refine⟨h1,?_⟩;rw[h2];refine⟨adS (λx U=>Pj E.ask x ((anR.1 U).1)) O _,λW=>?_⟩;grind [Gz,az]
structure Lsr (d:ah)(T:apV)(R:List Reach):Prop where
 d0:ap d=0
 x0:ap { d with Y2:=T,reaches:=R} =0
 len:R.length=d.reaches.length
 at_:∀ i,∃ c b,R.getD i default= { d.reaches.getD i default with cap:=c,aph:=b}/\c<=(d.reaches.getD i default).cap/\b<=(d.reaches.getD i default).aph
 start:T.start<=d.Y2.start
section
variable {d:ah}{T:apV}{R:List Reach}(h:Lsr d T R)
include h
theorem Lsr.up (i:Nat):(R.getD i default).up=(d.reaches.getD i default).up:=by
 obtain⟨c,b,e,_⟩:=h.at_ i;rw[e]
theorem Lsr.delay (i:Nat):(R.getD i default).delay=(d.reaches.getD i default).delay:=by
 obtain⟨c,b,e,_⟩:=h.at_ i;rw[e]
theorem Lsr.aoU (i:Nat):(R.getD i default).aoU=(d.reaches.getD i default).aoU:=by
 obtain⟨c,b,e,_⟩:=h.at_ i;rw[e]
theorem Rt (l:List bl):aP ({ d with Y2:=T,reaches:=R}:ah) l=aP d l:=by
 unfold aP;rw[h.x0,h.d0];rfl
theorem adT (l:List bl)(a b:Int):aw ({ d with Y2:=T,reaches:=R}:ah) l a b=aw d l a b:=by
 unfold aw;rw[Rt h];rfl
theorem Ru:∀ f n,upL ({ d with Y2:=T,reaches:=R}:ah) f n=upL d f n
 |0,_=>rfl
 |f+1,n=>by
  unfold upL;rw[Ru f];show(if 0<=n then n::upL d f (R.getD n.toNat (default:Reach)).up else [])=if 0<=n then n::upL d f (d.reaches.getD n.toNat (default:Reach)).up else [];rw[h.up]
theorem Xc (f a:Int):C_ ({ d with Y2:=T,reaches:=R}:ah) f a=C_ d f a:=by
 unfold C_ M4 ed;rw[Ru h];rfl
theorem Th (l:List bl)(k fr to:Int):ld ({ d with Y2:=T,reaches:=R}:ah) l k fr to=ld d l k fr to:=by
 unfold ld rD lp fnd;simp only[adT h,Xc h];rfl
theorem qd (l:List bl)(fr to k:Int):bX ({ d with Y2:=T,reaches:=R}:ah) l fr to k=bX d l fr to k:=by
 rw[(F4 _ l fr to k).2,(F4 d l fr to k).2];unfold ofL vE;rw[Th h,Rt h];rfl
theorem Ti (c:List Claim)(E:ap7 d c):ap7 ({ d with Y2:=T,reaches:=R}:ah) c:=by
 refine⟨?_,?_,E.lit⟩;have:=E.chk;unfold dP at this |-;rw[h.d0]at this;rw[h.x0];exact this;show(R.length:Int)*d.hours<=1024;rw[h.len];exact E.wide
theorem Pm (i:Nat)(v:Int):a8 (R.getD i default) v=a8 (d.reaches.getD i default) v:=by
 obtain⟨c,b,e,_⟩:=h.at_ i;rw[e];rfl
theorem Xd (o:List Order):aQ ({ d with Y2:=T,reaches:=R}:ah) o=aQ d o:=by
 have U:c9 ({ d with Y2:=T,reaches:=R}:ah) o=c9 d o:=by
  have:fm ({ d with Y2:=T,reaches:=R}:ah) o=fm d o:=by
   funext k s
   unfold fm;simp only[h.len]
  unfold c9 d8;simp only[h.d0,h.x0,h.len,this]
 have E:bB ({ d with Y2:=T,reaches:=R}:ah)=bB d:=by
  funext z s
  unfold bB;simp only[h.up,h.delay,Pm h]
 have O:cH ({ d with Y2:=T,reaches:=R}:ah)=cH d:=by
  unfold cH;simp only[h.len]
 unfold aQ;rw[U,E,O];rfl
theorem Xe {l:List bl}{fr to k:Int}(E:Opn d l fr to k):Opn ({ d with Y2:=T,reaches:=R}:ah) l fr to k:=
 ⟨by rw[qd h];exact E.err,by rw[qd h];exact Ti h _ E.ask,by rw[qd h,Xd h];exact E.plan,by rw[qd h];exact E.ten⟩
theorem Tj (i:Nat)(v:Int):iG (R.getD i default) v=iG (d.reaches.getD i default) v:=by
 obtain⟨c,b,e,_⟩:=h.at_ i;rw[e];rfl
theorem Xf (c:List Claim)(l:List A1):ct { d:=({ d with Y2:=T,reaches:=R}:ah),c:=c} l=ct { d:=d,c:=c} l:=by
 have O:dl { d:=({ d with Y2:=T,reaches:=R}:ah),c:=c} l=dl { d:=d,c:=c} l:=by
  funext k s
  unfold dl;simp only[h.len,h.up]
 have E:fS { d:=({ d with Y2:=T,reaches:=R}:ah),c:=c} l=fS { d:=d,c:=c} l:=by
  funext t k s
  unfold fS;simp only[h.delay,h.aoU,Tj h]
 unfold ct;rw[O,E];rfl
end
variable {d:ah}{l:List bl}{to k:Int}
theorem Nk{fr:Int}(r:aoV)(E:Opn d l fr to k):ba d l fr to k r=
  match aj (c6 d l fr to k r) r.al.length 0 ()with
  | .inl _=>(false,290)
  | .inr _=>bif !(ct { d:=d,c:=(bX d l fr to k).1.filter λx=>!bM x r.al} r.ao4).2|| !(cT r.reach 0 (i64.wrap ((d.reaches.length:Int) - 1))) || !(cT r.hour 0 (i64.wrap (d.hours - 1)))then(false,0)else
   match aj (fK d l fr to k r) 4 0 ()with
   | .inl x=>(x,0)
   | .inr _=>(false,0):=by
 have h2:=(vp { d:=d,c:=(bX d l fr to k).1} r.al (Gx d l fr to k)).2;unfold ba;rw[Gy E];grind
def tst (d:ah)(m:List ((Int×Int)×Int))(r:aoV):Bool×Int:=
 if r.kind=1 then(mn r r (d.reaches.getD (Int.toNat r.reach) default),0)else if r.kind=3 then(mo r r (d.reaches.getD (Int.toNat r.reach) default),0)else if r.kind=4 then(mq r r d,0)else if r.kind=7 then(pb m r (d.reaches.getD (Int.toNat r.reach) default),0)else(false,0)
theorem Xg{fr:Int}(r:aoV)(W:Opn d l fr to k):(match aj (fK d l fr to k r) 4 0 ()with| .inl x=>(x,0) | .inr _=>(false,(0:Int)))=tst d (ct { d:=d,c:=(bX d l fr to k).1.filter λx=>!bM x r.al} r.ao4).1 r:=by
 have h2:=(vp { d:=d,c:=(bX d l fr to k).1} r.al (Gx d l fr to k)).2;unfold tst;simp only[aj,fK,Gy W,h2];by_cases h1:r.kind=1
 simp_all;by_cases U:r.kind=3
 simp only[U];rfl;by_cases E:r.kind=4
 simp only[E];rfl;by_cases O:r.kind=7
 simp only[O];rfl;have V:((1:Int) ==r.kind)=false:=by grind
 have Y:((3:Int) ==r.kind)=false:=by grind
 have X:((4:Int) ==r.kind)=false:=by grind
 have g7:((7:Int) ==r.kind)=false:=by grind
 simp[V,Y,X,g7,h1,U,E,O]
variable {R:List Reach}
theorem aah{T:apV}(h:Lsr d T R)(m:List ((Int×Int)×Int))(r:aoV)(E:tst d m r=(true,0)):tst { d with Y2:=T,reaches:=R} m r=(true,0):=by
 obtain⟨c,b,e,hc,W⟩:=h.at_ (Int.toNat r.reach);unfold tst at E |-;simp only[e];by_cases h1:r.kind=1
 simp only[h1,if_true,am2,and_true]at E |-;unfold mn at E |-;grind
 by_cases V:r.kind=3
 simp only[h1,V,if_true,if_false,am2,and_true]at E |-;have E:=E;simp only[show((3:Int)=1)=False by simp,if_false,am2,and_true]at E |-;unfold mo at E |-;grind
 by_cases O:r.kind=4
 simp only[O,show((4:Int)=1)=False by simp,show((4:Int)=3)=False by simp,if_true,if_false,am2,and_true]at E |-;unfold mq at E |-;simp only[alt,decide_eq_true_eq]at E |-;have:=h.start;grind
 by_cases U:r.kind=7
 simp only[U,show((7:Int)=1)=False by simp,show((7:Int)=3)=False by simp,show((7:Int)=4)=False by simp,if_true,if_false,am2,and_true]at E |-;exact E;grind
theorem B7{T:apV}(h:Lsr d T R){fr:Int}{r:aoV}(hd:ba d l fr to k r=(true,0)):ba { d with Y2:=T,reaches:=R} l fr to k r=(true,0):=by
 have E:Opn d l fr to k:=(KQ d l fr to k).1 (by
  grind [ba])
 have O:=Xe h E;rw[Nk r E,Xg r E]at hd;rw[Nk r O,Xg r O,qd h,Xf h];have U:c6 { d with Y2:=T,reaches:=R} l fr to k r=c6 d l fr to k r:=by
  funext j s
  unfold c6;rw[Gy E,Gy O,qd h];rfl
 rw[U,h.len];revert hd;cases aj (c6 d l fr to k r) r.al.length 0 ()with
 |inl _=>grind
 |inr _=>
  have key:∀ {b:Bool} {u v:Bool×Int},(u=(true,0)->v=(true,0))->(bif b then(false,(0:Int))else u)=(true,0)->(bif b then(false,(0:Int))else v)=(true,0):=λ{b u v} h=>by
   grind
  exact key (aah h _ r)
theorem KR {α:Type}{step:Nat->List α->Empty⊕List α}(f:Nat->List α)(h:∀ k s,step k s=.inr (s++f k)):∀ n i s,aj step n i s=.inr (s++(List.range' i n).flatMap f)
 |0,i,s=>by simp[aj]
 |n+1,i,s=>by
  rw[aj,h];dsimp only;rw[KR f h n (i+1),amV,alO,amt]
theorem Xh {α:Type}{step:Nat->List α->Empty⊕List α}{p:Nat->List α->Prop}(f:Nat->List α)(h:∀ k s,step k s=.inr (s++f k)):∀ n i s,(∀ j,j<n->p (i+j) (s++(List.range' i j).flatMap f))->okI step p n i s
 |0,_,_,_=>trivial
 |n+1,i,s,hp=>by
  refine⟨by simpa using hp 0 (by omega),λs' e=>?_⟩;rw[h]at e;cases e;refine Xh f h n (i+1) _ λj E=>?_;grind [List.range'_succ]
def Nl (l:List Int):List (List Int):=(List.range' 0 (l.length+1)).flatMap λn=>chz n [] l
variable {l:List Int}
theorem Rv(h:l.length<=900):fh l=Nl l:=by
 unfold fh;rw[az (by omega) (by omega),KR (step:=j6 l) (λn=>chz n [] l) λ_ _=>rfl];rfl
theorem adU(h:l.length<=900):kM l ((fh l).map W6):=by
 intro _;rw[Rv h,az (by omega) (by omega),show(((l.length:Int)+1).toNat)=l.length+1 by omega];refine⟨by omega,Xh (λn=>chz n [] l) (λ_ _=>rfl) _ _ _ λj O=>?_,λs E=>?_⟩;unfold kx chP;rw[alC,alF];refine⟨by grind,by grind,λi y hy=>?_⟩;have e:Nl l=(List.range' 0 j).flatMap (λn=>chz n [] l)++(chz j [] l++(List.range' (j+1) (l.length - j)).flatMap λn=>chz n [] l):=by
  unfold Nl;rw[show l.length+1=j+(l.length - j+1) by omega,<-List.range'_append_1,anT,amV,alO,alF]
 rw[aml,e,ann (by grind)];simp only[aoh];rw[ant (alz.1 hy).1,hy];rfl;rw[KR (step:=j6 l) (λn=>chz n [] l) λ_ _=>rfl]at E;cases E;rw[amo];rfl
theorem KS:∀ (n:Nat) (s l:List Int) (z:List Int),z∈chz n s l->z.length=s.length+n
 |0,s,l,z,h=>by grind [Gp]
 |n+1,s,[],z,h=>by simp[chz]at h
 |n+1,s,x::l,z,h=>by
  simp only[chz]at h;split at h
  cases h;rw[al7]at h;rcases h with h|h;rw[KS n _ _ _ h];simp;omega;exact KS (n+1) _ _ _ h
theorem Tk{z:List Int}(h:z∈Nl l):z.length<=l.length:=by
 grind [Nl,KS,List.length_nil]
def pn (l:List A1):List (Int×A1):=(List.range l.length).map λk=>(((l.length - 1 - k:Nat):Int),l.getD (l.length - 1 - k) default)
theorem Nm {l:List A1}(h:l.length<=aK):∀ m k,m+k=l.length+1->okI (aH l) (bY l ((pn l).map vI)) m k ((pn l).take k,(l.length:Int) - 1 - k)/\aj (aH l) m k ((pn l).take k,(l.length:Int) - 1 - k)=.inl (pn l)\/l.length<k
 |0,k,hk=>.inr (by omega)
 |m+1,k,hk=>by
  have W:(pn l).length=l.length:=by unfold pn;simp
  by_cases hn:k<l.length
  unfold aK at h;have U:decide (((l.length:Int) - 1 - k)>=0)=true:=by simp;omega
  have e2:((l.length:Int) - 1 - k).toNat=l.length - 1 - k:=by omega
  have V:(pn l)[k]? =some ((l.length:Int) - 1 - k,l.getD (l.length - 1 - k) default):=by
   grind [pn]
  have Y:(pn l).take (k+1)=(pn l).take k++[((l.length:Int) - 1 - k,l.getD (l.length - 1 - k) default)]:=by
   rw[List.take_add_one,V];rfl
  have X:i64.wrap ((l.length:Int) - 1 - k - 1)=(l.length:Int) - 1 - ((k+1:Nat):Int):=by
   grind [az]
  have E:aH l k ((pn l).take k,(l.length:Int) - 1 - k)=.inr ((pn l).take (k+1),(l.length:Int) - 1 - ((k+1:Nat):Int)):=by
   simp_all [aH]
  rcases Nm h m (k+1) (by omega)with⟨h1,h2⟩ |hx;refine .inl ⟨⟨?_,λs' e=>?_⟩,?_⟩;grind [bY]
  grind
  grind [aj]
  omega;by_cases O:k=l.length
  subst O;have U:decide (((l.length:Int) - 1 - (l.length:Int))>=0)=false:=by simp;omega
  have E:aH l l.length ((pn l).take l.length,(l.length:Int) - 1 - (l.length:Int))=.inl (pn l):=by
   unfold aH;grind
  refine .inl ⟨⟨λq=>?_,λs' e=>?_⟩,?_⟩;grind
  grind
  rw[aj,E];omega
theorem aai {l:List A1}(h:l.length<=4611686):aA l=pn l/\cg l ((aA l).map vI):=by
 have E:(pn l).length=l.length:=by unfold pn;simp
 have key:=Nm (l:=l) (by unfold aK;omega) (l.length+1) 0 rfl;rw[an0,show((l.length:Int) - 1 - ((0:Nat):Int))=(l.length:Int) - 1 by omega]at key;rcases key with⟨h1,h2⟩ |hx;have e:aA l=pn l:=by
  grind [aA,az]
 refine⟨e,λ_=>?_⟩;grind [az]
 omega
instance asI {ρ σ:Type}{P:σ->Prop}[∀ s,Decidable (P s)]:(x:ρ⊕σ)->Decidable (∀ s,x=.inr s->P s)
 | .inl _=>.isTrue λ_ e=>nomatch e
 | .inr s=>match (inferInstance:Decidable (P s))with
  | .isTrue h=>.isTrue λ_ e=>by cases e;exact h
  | .isFalse h=>.isFalse λg=>h (g s rfl)
instance asP {ρ σ:Type}{P:ρ->Prop}[∀ s,Decidable (P s)]:(x:ρ⊕σ)->Decidable (∀ s,x=.inl s->P s)
 | .inr _=>.isTrue λ_ e=>nomatch e
 | .inl s=>match (inferInstance:Decidable (P s))with
  | .isTrue h=>.isTrue λ_ e=>by cases e;exact h
  | .isFalse h=>.isFalse λg=>h (g s rfl)
instance asM {ρ σ:Type}:(x:ρ⊕σ)->Decidable (∀ s,x≠ .inr s)
 | .inl _=>.isTrue λ_ e=>nomatch e
 | .inr s=>.isFalse λg=>g s rfl
def aiy {ρ σ:Type}(step:Nat->σ->ρ⊕σ)(p:Nat->σ->Prop)(D:∀ k s,Decidable (p k s)):(n i:Nat)->(s:σ)->Decidable (okI step p n i s)
 |0,_,_=>.isTrue trivial
 |n+1,i,s=>match D i s with
  | .isFalse h=>.isFalse λg=>h g.1
  | .isTrue h=>match e:step i s with
   | .inl _=>.isTrue ⟨h,λs' e'=>by rw[e]at e';cases e'⟩
   | .inr s'=>match aiy step p D n (i+1) s' with
    | .isTrue g=>.isTrue ⟨h,λs'' e'=>by rw[e]at e';cases e';exact g⟩
    | .isFalse g=>.isFalse λq=>g (q.2 s' e)
def aiz {ρ σ τ:Type}(step:τ->σ->ρ⊕σ)(p:τ->σ->Prop)(D:∀ k s,Decidable (p k s)):(l:List τ)->(s:σ)->Decidable (okL step p l s)
 | [],_=>.isTrue trivial
 |x::l,s=>match D x s with
  | .isFalse h=>.isFalse λg=>h g.1
  | .isTrue h=>match e:step x s with
   | .inl _=>.isTrue ⟨h,λs' e'=>by rw[e]at e';cases e'⟩
   | .inr s'=>match aiz step p D l s' with
    | .isTrue g=>.isTrue ⟨h,λs'' e'=>by rw[e]at e';cases e';exact g⟩
    | .isFalse g=>.isFalse λq=>g (q.2 s' e)
instance asA {ρ σ:Type}{step:Nat->σ->ρ⊕σ}{p:Nat->σ->Prop}[D:∀ k s,Decidable (p k s)]{n i:Nat}{s:σ}:Decidable (okI step p n i s):=aiy step p D n i s
instance asx {ρ σ τ:Type}{step:τ->σ->ρ⊕σ}{p:τ->σ->Prop}[D:∀ k s,Decidable (p k s)]{l:List τ}{s:σ}:Decidable (okL step p l s):=aiz step p D l s
instance aqi (s_:x7)(S2:Nat)(ly:List ((Int×Int)×Int)):Decidable (eu s_ S2 ly):=by unfold eu;repeat (first|infer_instance|refine @instDecidableAnd _ _ ?_ ?_|refine @instDecidableForall _ _ ?_ ?_)
instance aqn (s_:x7):Decidable (eA s_):=by unfold eA;repeat (first|infer_instance|refine @instDecidableAnd _ _ ?_ ?_|refine @instDecidableForall _ _ ?_ ?_)
instance aqW (n:Int)(r:Reach)(w:Int):Decidable (kW n r w):=by unfold kW;repeat (first|infer_instance|refine @instDecidableAnd _ _ ?_ ?_|refine @instDecidableForall _ _ ?_ ?_)
instance aqT (w:Int)(r:Reach):Decidable (mh w r):=by unfold mh;repeat (first|infer_instance|refine @instDecidableAnd _ _ ?_ ?_|refine @instDecidableForall _ _ ?_ ?_)
instance aqX (r:Reach)(w:Int):Decidable (iM r w):=by unfold iM;repeat (first|infer_instance|refine @instDecidableAnd _ _ ?_ ?_|refine @instDecidableForall _ _ ?_ ?_)
instance aqa (a0:x7)(ly:List A1×List ((Int×Int)×Int)×List ((Int×Int)×Bool)×Int)(k_1:Nat)(s_1:List A1×List ((Int×Int)×Int)×List ((Int×Int)×Bool)):Decidable (eY a0 ly k_1 s_1):=by unfold eY;repeat (first|infer_instance|refine @instDecidableAnd _ _ ?_ ?_|refine @instDecidableForall _ _ ?_ ?_)
instance aqe (a0:x7)(S2:Nat)(ly:List A1×List ((Int×Int)×Int)×List ((Int×Int)×Bool)×Int):Decidable (eZ a0 S2 ly):=by unfold eZ;repeat (first|infer_instance|refine @instDecidableAnd _ _ ?_ ?_|refine @instDecidableForall _ _ ?_ ?_)
instance aql (a0:x7):Decidable (eP a0):=by unfold eP;repeat (first|infer_instance|refine @instDecidableAnd _ _ ?_ ?_|refine @instDecidableForall _ _ ?_ ?_)
instance aqk (a0:A1)(f_:W2)(rs_:List Reach):Decidable (fF a0 f_ rs_):=by unfold fF;repeat (first|infer_instance|refine @instDecidableAnd _ _ ?_ ?_|refine @instDecidableForall _ _ ?_ ?_)
instance aqf (s_:x7)(l_:List A1)(f:W2)(z_0:Int×A1)(ly:List ((Int×Int)×Bool)×List A1):Decidable (ef s_ l_ f z_0 ly):=by unfold ef;repeat (first|infer_instance|refine @instDecidableAnd _ _ ?_ ?_|refine @instDecidableForall _ _ ?_ ?_)
theorem Pn (a b:Claim):oT a b=decide (cS a b<0):=by
 rw[amj,decide_eq_true_eq,Ap];unfold oT;simp only[rU,oO,and_false,or_false];grind
theorem abm {α:Type}(P:α->Bool)(d:α):∀ (l:List α) (n:Nat),n<=l.length->(∀ i,i<n->P (l.getD i d)=true)->(n<l.length->P (l.getD n d)=false)->l.takeWhile P=l.take n/\l.dropWhile P=l.drop n
 | [],n,h,_,_=>by simp
 |x::l,0,_,_,h2=>by
  simp_all
 |x::l,n+1,h,h1,h2=>by
  have:=h1 0 (by omega);rw[anU]at this;rw[aly]at h h2;obtain⟨a,b⟩:=abm P d l n (by omega) (λi hi=>by grind) (λE=>by grind);simp_all
theorem Xi (l:List Claim)(x:Claim)(Y:l.length<=153600):tM l x/\p_ l x=tY l x:=by
 obtain⟨a,r,b,⟨c1,c2⟩,U,W⟩:=y8 (step:=oU l x) (p:=oV l x) (λs=>l.length - s.toNat) (λs=>(0<=s/\s<=(l.length:Int))/\∀ i:Nat,(i:Int) <s->decide (cS (l.getD i default) x<0)=true)
  (λr=>(0<=r/\r<=(l.length:Int))/\(∀ i:Nat,(i:Int) <r->decide (cS (l.getD i default) x<0)=true)/\(r< (l.length:Int)->decide (cS (l.getD r.toNat default) x<0)=false)) (λk s O=>by
   obtain⟨⟨E,h1⟩,h2⟩:=O;refine⟨λ_ h=>⟨E,of_decide_eq_true h⟩,?_⟩;unfold oU;rw[Pn];by_cases V:s< (l.length:Int)
   rw[decide_eq_true V,ane];cases hq:decide (cS (l.getD s.toNat default) x<0)with
   |true=>
    refine .inr ⟨_,rfl,?_⟩;grind [az]
   |false=>grind
   grind) 200000 0 0 ⟨⟨al5 _,by omega⟩,λi hi=>by omega⟩ (by omega)
 obtain⟨t1,t2⟩:=abm (λy=>decide (cS y x<0)) default l r.toNat (by omega) (λi hi=>U i (by omega)) (λhn=>W (by omega));have tk:l.take (Int.toNat (l.length:Int))=l:=by grind
 refine⟨⟨a,(λz X=>by grind),λy hy=>?_⟩,?_⟩;rw[b]at hy;cases hy;grind [d9]
 grind [p_,tY]
theorem Xj (l:List Claim)(x:Claim):(tY l x).length=l.length+1:=by rw[(IG l x).length_eq,aly]
theorem Nn:∀ (r s:List Claim),(r.foldl tY s).length=s.length+r.length
 | [],s=>by simp
 |x::r,s=>by rw[aon,Nn r,Xj,aly];omega
variable {h:Int}
theorem aaj{x:ape}(O:aqL d x)(U:x.kind=1)(E:0<=h)(h1:h<4096):p8 x h=Ws x h:=by
 have:=BF O E h1;unfold p8;grind
theorem GA (d:ah)(l:List bl)(h k:Int):rT d l h k/\gK d l h k=rD d l h k:=by
 have V:=asv d l h k;have X:=(@Wu d l h k).2;have hstep:∀ j s,j< (aw d l h k).1.length->kV d l h k j s=(.inr (match opn d h ((aw d l h k).1.getD j default)with|some c=>p_ s c|none=>s):Empty⊕List Claim):=λj s O=>by
  obtain⟨⟨⟨a,b⟩,c,e⟩,W,hk⟩:=Dx O;grind [kV,aaj,opn]
 have hJ0:∀ j,(((aw d l h k).1.take j).filterMap (opn d h)).foldl tY []=(((aw d l h k).1.take j).filterMap (opn d h)).foldl tY []:=λ_=>rfl;have Y:∀ j,((((aw d l h k).1.take j).filterMap (opn d h)).foldl tY []).length<=153600:=λj=>by
  grind [Nn]
 have E:∀ j s,j< (aw d l h k).1.length->s=(((aw d l h k).1.take j).filterMap (opn d h)).foldl tY []->(match opn d h ((aw d l h k).1.getD j default)with|some c=>p_ s c|none=>s)=(((aw d l h k).1.take (j+1)).filterMap (opn d h)).foldl tY []:=λj s O U=>by
  rw[b_ _ default O,anI,List.foldl_append,<-U];cases hc:opn d h ((aw d l h k).1.getD j default)with
  |none=>grind
  |some c=>
   simp_all [Xi]
 refine⟨⟨V.1,?_⟩,?_⟩;rw[V.2];refine kh (λj s=>s=(((aw d l h k).1.take j).filterMap (opn d h)).foldl tY []) _ _ _ rfl λj s _ O U=>?_;have O:j< (aw d l h k).1.length:=by omega
 obtain⟨⟨⟨a,b⟩,c,e⟩,W,hk⟩:=Dx O;refine⟨?_,λs' e=>?_⟩;intro _;rw[V.2];exact⟨⟨a,b⟩,λ_=>by have:=W.every;omega,λ_=>(Xi s _ (by grind)).1⟩;grind
 obtain⟨r,h1,h2⟩:=li (step:=kV d l h k) (λj s=>s=(((aw d l h k).1.take j).filterMap (opn d h)).foldl tY []) (aw d l h k).1.length 0 [] rfl (λj s _ O U=>⟨_,hstep j s (by omega),E j s (by omega) U⟩);unfold gK;rw[V.2,h1];simp only;rw[h2,alF,am7];rfl
theorem Xk{f:Int}(V:ap d=0)(E:0<=f)(h1:f< (d.u0.length:Int)):ln d f h/\ji d f h=C_ d f h:=by
 obtain⟨W,O⟩:=adz (IH V E h1);refine⟨⟨⟨E,h1⟩,W⟩,?_⟩;have key:∀ (L:List Int) (i:Nat) (step:Nat->Unit->Int⊕Unit),(∀ k,k<L.length->step (i+k) ()=bif(M3 d f h (L.getD k 0))then .inl (L.getD k 0)else .inr ())->(match aj step L.length i ()with| .inl x=>x| .inr _=>(-1))=(L.find? (M3 d f h)).getD (-1):=by
  intro L;induction L with
  |nil=>intro i step _;rfl
  |cons x L X=>
   intro i step U;have E:=U 0 (by simp);rw[anU]at E;rw[aly,aj];simp only[amy]at E;rw[E,List.find?_cons];cases M3 d f h x with
   |true=>rfl
   |false=>
    simp only[cond_false];exact X (i+1) step λk Y=>by
     have:=U (k+1) (by grind);grind
 unfold ji C_ M4;rw[O];exact key _ 0 _ λk Y=>by
  unfold nR;rw[O,alF];rfl
theorem aak (d:ah)(l:List bl)(fr to k:Int):qr d l fr to k/\mc d l fr to k=vE d l fr to k:=by
 refine⟨xI d l,?_⟩;unfold mc vE;rw[Q7,Wx];by_cases hc:aP d l=0
 rw[hc];simp only[bne_self_eq_false,cond_false,ne_eq,not_true,if_false];by_cases E:sY d fr to k
 rw[Wy (sQ hc).right E,decide_eq_true E,if_neg (not_not_intro E)];grind
 grind
 grind
variable {l:List bl}
theorem xN{fr:Int}(h:vE d l fr to k=0):aP d l=0/\sY d fr to k/\¬4096< (to - fr+1)*(d.al.length:Int):=by
 grind [vE]
theorem IW (d:ah)(l:List bl)(h k:Int):(rD d l h k).length<=600*d.al.length:=by rw[(zc d l h k).length_eq];exact(IF d l h k).1
theorem Tl{β:Type}{fr:Int}{G:Int->List β}(E:vE d l fr to k=0)(hG:∀ h,(G h).length<=(rD d l h k).length)(h1:fr<=h)(h2:h<=to):((hrs fr (h - 1)).flatMap G).length+(rD d l h k).length<=2457600:=by
 obtain⟨_,V,U⟩:=xN E;have O:=uN G (600*d.al.length) (hrs fr (h - 1)) λa _=>alQ (hG a) (IW d l a k);rw[Q5]at O;have W:=IW d l h k;refine ru V U (alQ (m:=(h - 1+1 - fr).toNat*(600*d.al.length)+600*d.al.length) (by omega) ?_);rw[<-anV];exact alM _ (by omega)
theorem aiA (d:ah)(l:List bl)(fr to k:Int):vz d l fr to k/\nk d l fr to k=lim (vE d l fr to k) (ofL d l k fr to):=by
 obtain⟨c1,c2⟩:=aak d l fr to k;by_cases X:vE d l fr to k=0
 obtain⟨hc,W,hb⟩:=xN X;have hR:=(sQ hc).right;have U:∀ (h:Int) (s0:List Claim×Int),s0.2=h->∀ j s,j< (rD d l h k).length->qW d l k s0 j s=.inr (s++((λc:Claim=>if C_ d c.ee h<0 then some c else none) ((rD d l h k).getD j default)).toList):=λh s0 hs j s hj=>by
  have O:=Ar (FY _ default hj);unfold qW;rw[hs,(GA d l h k).2,(Xk O.exp O.f0 O.f1).2];grind
 have V:=Ra (step:=mf d l to k) (p:=nj d l to k) fr to (ofH d l k) W.1.1 (by have:=W.1.2.2;have:=hR.hours;omega) (by have:=W.1.2.1;omega)
  (λj s h h1 h2=>by
   unfold mf;simp only;rw[decide_eq_true h2,(GA d l h k).2];simp only[cond_true];rw[FX (rD d l h k) default (λc:Claim=>if C_ d c.ee h<0 then some c else none) s (U h (s,h) rfl)];rfl)
  (λj s h h1=>by grind [mf])
  (λj h h1 h2=>by
   unfold nj;simp only;intro E;have E:h<=to:=of_decide_eq_true E;rw[(GA d l h k).2];refine⟨(GA d l h k).1,?_⟩;refine Ky (rD d l h k) default (λc:Claim=>if C_ d c.ee h<0 then some c else none) _ (U h (_,h) rfl) λi hi=>?_;intro _;simp only;rw[(GA d l h k).2];have O:=Ar (FY _ default hi);refine⟨(Xk O.exp O.f0 O.f1).1,λ_=>?_⟩;have h3:=Tl (G:=ofH d l k) X (λh=>by grind [ofH]) h1 E;grind [d9])
 obtain⟨r1,r2⟩:=V;rw[<-adH]at r2;refine⟨⟨c1,λ_=>⟨r1,λz hz=>by grind⟩⟩,?_⟩;unfold nk lim;grind
 have Y:(mc d l fr to k !=0)=true:=by grind
 refine⟨⟨c1,λh=>by grind⟩,?_⟩;unfold nk lim;grind
def Po (d:ah)(l:List bl)(k fr to:Int):List T1:=(hrs fr to).flatMap λh=>(((qY d (je d l h k)).filterMap (opn d h)).foldl tY []).map (fnd d h)
theorem Xl{fr:Int}(h:vE d l fr to k=0):ld d l k fr to=Po d l k fr to:=by
 obtain⟨hc,⟨⟨a,b,c⟩,e,f⟩,_⟩:=xN h;unfold ld Po;have:∀ L:List Int,(∀ x∈L,fr<=x/\x<=to)->(L.flatMap λh=>(rD d l h k).map (fnd d h))=L.flatMap λh=>(((qY d (je d l h k)).filterMap (opn d h)).foldl tY []).map (fnd d h):=λL=>by
  induction L with
  |nil=>intro _;rfl
  |cons x L U=>
   intro O;have E:=O x (by simp);rw[alO,alO,U λy hy=>O y (by simp[hy])];congr 2
   unfold rD lp;rw[(ID d l x k).2,if_neg (by simp[hc]),if_pos (by omega)]
 exact this _ λx E=>ZW.1 E
theorem Rw{fr:Int}{F:List T1}(h:vE d l fr to k=0)(E:Po d l k fr to=F)(h1:decide (4096< (F.filterMap ofF).length)=false):bX d l fr to k=(F.filterMap ofF,0):=by
 rw[(F4 d l fr to k).2];unfold lim ofL;rw[Xl h,E,if_pos h,if_neg (of_decide_eq_false h1)]
def xO (a0:ah)(a1:List Claim):Bool:=letI q0:=(a0.reaches.length:Int);letI q1:=(a0.u0.length:Int);(bif((((((((decide (q0 > 8))&&(decide (q0<=64))) ||(decide (q0 > 100))) ||((decide (q1 > 8))&&(decide (q1<=600)))) ||(decide (q1 > 700))) ||(decide ((a0.al.length:Int) > 300))) ||(decide ((a0.aoT.length:Int) > 300))) ||(decide ((a0.ao1.length:Int) > 100)))then false else(((decide (a0.hours<=30)) ||(decide (a0.hours > 1024)))&&(decide ((a1.length:Int)<=60))))
@[go_sem] def No:List SV->Option Con:=(pD .bh λa0=>(pR .C1 λa1=>(pE (.det True (.v (.bool (xO a0 a1)))))))
theorem KT:B1 Tryz.prog 26 No:=by
 have hG:=mG P0 P0;refine fN hG Tryz.f26 [.o] (av λa0=>(bN λa1=>(am (λE=>?_))));dsimp only[an]at E;refine⟨nbl rfl,L0,ag _,?_⟩;unfold ae Tryz.f26;try unfold xO
 exact zq2
end Go.Sx
end
section
namespace Go.Sx
open Go.Lib Go.Proofs Go.Shelf Go.Sort
open IntKind (i64)
theorem vK {α:Type}{cf:α->α->Int}(O:SWO (ltOf cf)){l m:List α}(X:m.Perm l)(V:m.Pairwise λx y=>ltOf cf x y=true):srt cf l=m:=by
 have h1:(srt cf l).Pairwise λx y=>(!(ltOf cf y x))=true:=by
  refine amm (λa b c h1 h2=>?_) (λa b=>?_) l;simp only[alL]at h1 h2 |-;exact O.ntrans _ _ _ h2 h1;cases q:ltOf cf b a with
  |false=>rfl
  |true=>
   cases E:ltOf cf a b with
   |false=>rfl|true=>have:=O.trans _ _ _ q E;rw[O.irrefl]at this;cases this
 have h2:m.Pairwise λx y=>(!(ltOf cf y x))=true:=V.imp λ{x y} q=>by
  cases E:ltOf cf y x with
  |false=>rfl|true=>have:=O.trans _ _ _ q E;rw[O.irrefl]at this;cases this
 have U:(srt cf l).Perm l:=amr _ _;refine amx (λa b W hb Y E=>?_) h1 h2 (U.trans X.symm);have W:a∈m:=X.mem_iff.2 (U.mem_iff.1 W);obtain⟨i,hi,rfl⟩:=al8 W;obtain⟨j,hj,rfl⟩:=al8 hb;rw[al3]at V;rcases an4 i j with q|q|q;have:=V i j hi hj q;rw[this]at E;cases E;subst q;rfl;have:=V j i hj hi q;rw[this]at Y;cases Y
theorem xn {d:ah}{c:List Claim}{out l:List Order}{B:List W2}(h1:dP d c=0)(h2:decide ((i64.wrap ((d.reaches.length:Int)*d.hours)) > 1024)=false)(U:aS c=out)
  (O:bA out=false) (E:aQ d out=(l,true,0)) (W:dK l d=B):
  c5 d c=match B with| [] =>(l,({ kind:=0,hour:=0,index:=0,dd:=0,limit:=0}:W2),0) |f::_=>([],f,0):=by
 have V:aZ d c=(out,0):=by
  unfold aZ;rw[h1,h2,U,O];rfl
 unfold c5;simp only[V,E,W,bne_self_eq_false,cond_false,alN];cases B <;>rfl
abbrev eK (h i n:Int)(o:Bool):Order:= { hour:=h,index:=i,dd:=n,X2:=o}
end Go.Sx
end
