/- Part of the proof that the law RefuseHolds returns true and leaves its arguments as they were, for all arguments of bulk at most 1048576 (the Upto form). -/
import Derived.Test.YtaikmgjfkejlkaaGreatH111
import Derived.Test.YtaikmgjfkejlkaaGreatH108
import Derived.Test.YtaikmgjfkejlkaaGreatH107
import Derived.Test.YtaikmgjfkejlkaaGreatH109
import Derived.Sort.Statements
import Derived.Shelf.SlSortCmp.Insertion
import Derived.Shelf.SlSortCmp.NoneTotal
import Derived.Ground.SlsfProg
import Derived.Test.YtaikmgjfkejlkaaGreatH103
import Derived.Test.YtaikmgjfkejlkaaGreatProg
import Derived.Test.YtaikmgjfkejlkaaGreatH110
set_option linter.all false
set_option maxHeartbeats 4000000
set_option maxRecDepth 100000
section
namespace Go.Sx
open Go.Proofs Tryz
open IntKind (i64 u64)
variable {α β:Type}
def H8{ρ:Type}{step:Nat->List β->ρ⊕List β}(l:List α)(d:α)(f:α->Option β)(s0:List β)(h:∀ k s,k<l.length->step k s=.inr (s++(f (l.getD k d)).toList)):aj step l.length 0 s0=.inr (s0++l.filterMap f):=by
 obtain⟨r,h1,h2⟩:=k_ (step:=step) (λk s=>s=s0++(l.take k).filterMap f) l.length 0 s0 (by simp) (λj s _ E O=>by
  rw[aou]at E;grind [cw])
 grind
def MZ{ρ:Type}{step:Nat->List β->ρ⊕List β}{p:Nat->List β->Prop}(l:List α)(d:α)(f:α->Option β)(s0:List β)(h:∀ k s,k<l.length->step k s=.inr (s++(f (l.getD k d)).toList))(O:∀ k,k<l.length->p k (s0++(l.take k).filterMap f)):okI step p l.length 0 s0:=by
 refine ij (λk s=>s=s0++(l.take k).filterMap f) _ _ _ (by simp) λj s _ V E=>⟨g6,λs' e=>?_⟩;grind [cw]
theorem abV(l:List α)(d:α)(f:α->Option β){k:Nat}(E:k<l.length){c:β}(hc:f (l.getD k d)=some c):(l.filterMap f)[((l.take k).filterMap f).length]? =some c:=by
 grind [List.drop_eq_getElem_cons,List.take_append_drop]
theorem TU{step:Nat->List β×Int->List β⊕(List β×Int)}{p:Nat->List β×Int->Prop}(fr to:Int)(G:Int->List β)(h0:0<=fr)(h1:to<4096)(E:fr<=to+1)
  (hs:∀ k s h,fr<=h->h<=to->step k (s,h)=.inr (s++G h,i64.wrap (h+1))) (he:∀ k s h,to<h->step k (s,h)=.inl s)
  (X:∀ k h,fr<=h->h<=to+1->p k ((hrs fr (h - 1)).flatMap G,h)):okI step p 4098 0 ([],fr)/\aj step 4098 0 ([],fr)=.inl ((hrs fr to).flatMap G):=by
 obtain⟨a,r,b,c⟩:=Ac (step:=step) (p:=p) (λs=>(to+1 - s.2).toNat) (λs=>(fr<=s.2/\s.2<=to+1)/\s.1=(hrs fr (s.2 - 1)).flatMap G) (λr=>r=(hrs fr to).flatMap G) (λk s hJ=>by
  obtain⟨s,h⟩:=s;obtain⟨⟨O,W⟩,V⟩:=hJ;simp only at O W V;subst V;refine⟨X k h O W,?_⟩;by_cases Y:h<=to
  refine .inr ⟨_,hs k _ h O Y,?_⟩;simp only;rw[aw g5 g5];refine⟨g5,⟨g5,g5⟩,?_⟩;rw[show h+1 - 1=(h - 1)+1 by omega,PE g5,ap0,show h - 1+1=h by omega];simp;grind) 4098 0 ([],fr) ⟨⟨ao7 _,E⟩,by rw[abK g5];rfl⟩ g5
 grind
variable {d:ah}{h:Int}
theorem DJ{x:ar4}(E:atF d x)(V:0<=h)(h1:h<4096):(((decide (h<x.since)) ||(decide (h > x.to))) ||(decide ((Int.tmod (i64.wrap (h - x.since)) x.every)>=x.length)))= !YS x h:=by
 have:=E.at3;unfold YS;by_cases O:x.since<=h
 rw[aw g5 g5,decide_eq_true O,decide_eq_false (show ¬h<x.since by omega)];grind
 grind
theorem H9(l:List α)(d:α){k:Nat}(E:k<l.length):l.getD k d∈l:=g6
variable {l:List bn}{k:Int}
theorem FJ{j:Nat}(E:j< (aD d l h k).1.length):((0<=((aD d l h k).1.getD j default).right/\((aD d l h k).1.getD j default).right< (d.bh.length:Int))/\(0<=h/\h<4096))/\atF d (d.bh.getD (Int.toNat ((aD d l h k).1.getD j default).right) default)/\(d.bh.getD (Int.toNat ((aD d l h k).1.getD j default).right) default).kind=1:=by
 obtain⟨a,⟨O,V⟩,c,e,f,g,i,m,n,o⟩:=YT (H9 _ default E);have:=(kE (by rw[a];rfl)).hours;exact⟨⟨⟨c,e⟩,O,g5⟩,Sh a g5 o,o⟩
theorem M0 (d:ah)(l:List bn)(h k:Int):gf d l h k=nL d l h k/\l8 d l h k ((gf d l h k).map DE):=by
 have hstep:∀ j s,j< (aD d l h k).1.length->jL d l h k j s=.inr (s++(opn d h ((aD d l h k).1.getD j default)).toList):=λj s O=>by
  obtain⟨⟨⟨a,b⟩,c,e⟩,E,_⟩:=FJ O;unfold jL opn;rw[DJ E c e];grind
 have V:aj (jL d l h k) ((aD d l h k).1).length 0 []=.inr (nL d l h k):=by
  rw[H8 _ default (opn d h) [] hstep];rfl
 have e:gf d l h k=nL d l h k:=by unfold gf;rw[V]
 refine⟨e,(KR d l h k).1,λ_=>⟨MZ _ default (opn d h) [] hstep λj O=>?_,λs X=>?_⟩⟩;obtain⟨⟨⟨a,b⟩,c,f⟩,E,_⟩:=FJ O;refine⟨⟨a,b⟩,λ_=>by have:=E.every;omega,λhc=>?_⟩;rw[DJ E c f]at hc;have W:opn d h ((aD d l h k).1.getD j default)=some { right:=((aD d l h k).1.getD j default).right,dd:=((aD d l h k).1.getD j default).dd,hour:=h,bl:=((aD d l h k).1.getD j default).bl,arM:=((aD d l h k).1.getD j default).arM}:=by
  simp_all [opn]
 rw[e,aos,apj];unfold nL;grind [abV]
 grind
def P5 (d:ah)(f h r:Int):Bool:= !(rE d f r h)
def TV (d:ah)(f:Int):List Int:=(eW d (d.zs.getD (Int.toNat f) default).reach).reverse
def M3 (d:ah)(f h:Int):Int:=((TV d f).find? (P5 d f h)).getD (-1)
def fnd (d:ah)(h:Int)(c:Claim):arv:= { W2:=c,reach:=M3 d c.dd h}
theorem KV{f:Int}(E:av d=0)(V:0<=f)(h1:f< (d.zs.length:Int)):asZ d (d.zs.getD (Int.toNat f) default).reach:=by
 have O:=kE (by rw[E];rfl);have:=O.dd f.toNat g5;exact⟨E,this.1,this.2⟩
theorem Sj{c:Claim}(O:d.bh.length<=256)(l:List Int):(dZ l (cV d h) c<0/\l.find? (P5 d c.dd h)=none)\/∃ j:Nat,j<l.length/\dZ l (cV d h) c=(j:Int)/\l.find? (P5 d c.dd h)=some (l.getD j 0):=by
 have:=y5 (step:=gG l (cV d h) c) l 0 (P5 d c.dd h) (λk E=>by
  grind [gG,tJ,P5,afU])
 unfold dZ;grind
def A7 (d:ah)(l:List bn)(k a b:Int):List arv:=(hrs a b).flatMap λh=>(nL d l h k).map (fnd d h)
def tg (d:ah)(l:List bn)(k a b:Int):List arv:=(hrs a b).flatMap λh=>(uM d l h k).map (fnd d h)
theorem abW(l:List bn)(k:Int)(s0:List arv×Int){c:Claim}(hc:atd d s0.2 c)(s:List arv):gJ d l k s0 c s=.inr (s++[fnd d s0.2 c])/\((s.length+1)*48<=dT->jn d l k s0 c s):=by
 have X:=kE (by rw[hc.exp];rfl);have V:=KV hc.exp hc.f0 hc.f1;have E:=HR V;unfold gJ jn;rw[E];simp only;rcases Sj (d:=d) (h:=s0.2) (c:=c) X.bh (eW d (d.zs.getD (Int.toNat c.dd) default).reach).reverse with⟨hi,O⟩ | ⟨j,Y,hi,O⟩;rw[decide_eq_false (show ¬_>=(0:Int) by omega)];refine⟨?_,λW=>⟨⟨hc.f0,hc.f1⟩,Ax _ _,λh=>g6,λ_=>g6⟩⟩;simp only[cond_false,fnd,M3,TV,O,Option.getD_none];rw[hi,decide_eq_true (show(j:Int)>=0 by omega)];refine⟨?_,λW=>⟨⟨hc.f0,hc.f1⟩,Ax _ _,λ_=>⟨⟨g5,g5⟩,g6⟩,λh=>g6⟩⟩;simp only[cond_true,fnd,M3,TV,O,Option.getD_some,aol]
theorem Sk {d:ah}(l:List bn)(k:Int)(s0:List arv×Int):∀ (L:List Claim) (s:List arv),(∀ c∈L,atd d s0.2 c)->cG (gJ d l k s0) L s=.inr (s++L.map (fnd d s0.2))/\((s.length+L.length)*48<=dT->okL (gJ d l k s0) (jn d l k s0) L s)
 | [],s,_=>⟨by simp[cG],λ_=>trivial⟩
 |c::L,s,h=>by
  obtain⟨h1,h2⟩:=abW l k s0 (h c (by simp)) s;obtain⟨W,V⟩:=Sk l k s0 L (s++[fnd d s0.2 c]) λx E=>h x (by simp[E]);refine⟨?_,λO=>?_⟩;grind [cG]
  rw[aon]at O;refine⟨h2 g5,λs' e=>?_⟩;grind
theorem H_{fr to:Int}:(A7 d l k fr to).length<=(to+1 - fr).toNat*(600*d.bh.length):=by
 unfold A7;have:=wH (λh=>(nL d l h k).map (fnd d h)) (600*d.bh.length) (hrs fr to) λh _=>by rw[apd];exact(KT d l h k).1
 rwa[TO]at this
def Ia (d:ah)(l:List bn)(k a b:Int):(A7 d l k a b).Perm (tg d l k a b):=Vm λh _=>(A6 d l h k).symm.map _
theorem M4 (d:ah)(l:List bn)(k fr to:Int):(tg d l k fr to).Pairwise λx y=>gw x y<0:=by
 unfold tg;refine abM (afX fr to) (λh _=>?_) λa _ b _ X x W y hy=>?_;rw[aqb];exact(MY d l h k).imp λ{x y} E=>(HU _ _).2 E;obtain⟨x',O,rfl⟩:=apb.1 W;obtain⟨Y,V,rfl⟩:=apb.1 hy;have h1:=(Ck O).hour;have h2:=(Ck V).hour;refine(HU _ _).2 ?_;simp_all [fnd,tO,pO]
def uN (d:ah)(a b k:Int):Prop:=(0<=a/\a<=b/\b<d.hours)/\0<=k/\k<=1048576
instance (d:ah)(fr to k:Int):Decidable (uN d fr to k):=by unfold uN;infer_instance
def yh (d:ah)(l:List bn)(a b k:Int):Int:=if ba d l≠0 then ba d l else if ¬uN d a b k then 1 else if 4096< (b - a+1)*(d.bh.length:Int)then 2 else 0
theorem YX (d:ah)(fr to k:Int):(((((decide (fr<0)) ||(decide (fr > to))) ||(decide (to>=d.hours))) ||(decide (k<0))) ||(decide (k > 1048576)))= !decide (uN d fr to k):=by
 rw[ape,aox,decide_eq_false_iff_not];simp only[aoN,decide_eq_true_eq];grind [uN]
theorem YY{fr to:Int}(E:arW d)(h:uN d fr to k):i64.wrap ((i64.wrap ((i64.wrap (to - fr))+1))*(d.bh.length:Int))=(to - fr+1)*(d.bh.length:Int):=by
 obtain⟨⟨a,b,c⟩,e,f⟩:=h;have h1:=E.hours;have h2:=E.bh;rw[aw (n:=to - fr) g5 g5,aw (n:=to - fr+1) g5 g5];have V:(to - fr+1)*(d.bh.length:Int)<=4096*256:=Int.mul_le_mul g5 g5 g5 g5;have O:0<=(to - fr+1)*(d.bh.length:Int):=aqd g5 g5;exact aw g5 g5
theorem th{fr to:Int}(h:uN d fr to k)(E:¬4096< (to - fr+1)*(d.bh.length:Int)){n:Nat}(hn:n<=(to+1 - fr).toNat*(600*d.bh.length)):n<=2457600:=by
 grind [Int.mul_comm]
theorem af3 (d:ah)(l:List bn)(fr to k:Int):qx d l fr to k/\fG d l fr to k=if yh d l fr to k=0 then(tg d l k fr to,0)else([],yh d l fr to k):=by
 unfold qx fG yh;rw[YX];by_cases hc:ba d l=0
 rw[hc];simp only[bne_self_eq_false,cond_false,ne_eq,not_true,if_false];have hD:=uG hc;have hR:=hD.right;by_cases E:uN d fr to k
 rw[YY hR E,decide_eq_true E];simp only[aoH,cond_false,not_true,if_false];by_cases V:4096< (to - fr+1)*(d.bh.length:Int)
 rw[decide_eq_true V,if_pos V];exact⟨⟨wC d l,λ_ _ _ h=>by cases h⟩,g6⟩;rw[decide_eq_false V,if_neg V];simp only[cond_false,if_true];have O:=TU (step:=kR d l to k) (p:=l9 d l to k) fr to (λh=>(nL d l h k).map (fnd d h)) E.1.1 (by have:=E.1.2.2;have:=hR.hours;omega) (by have:=E.1.2.1;omega)
  (λj s h h1 h2=>by
   unfold kR;simp only;rw[decide_eq_true h2,(M0 d l h k).1];simp only[cond_true];rw[(Sk l k (s,h) (nL d l h k) s λc hc=>H6 hc).1])
  (λj s h h1=>by grind [kR])
  (λj h h1 h2=>by
   unfold l9;simp only;intro W;have W:h<=to:=of_decide_eq_true W;refine⟨(M0 d l h k).2,?_⟩;rw[(M0 d l h k).1];refine(Sk l k (_,h) (nL d l h k) _ λc hc=>H6 hc).2 ?_;have h3:((hrs fr (h - 1)).flatMap λh=>(nL d l h k).map (fnd d h)).length+(nL d l h k).length=(A7 d l k fr h).length:=by
    unfold A7;have:=PE (a:=fr) (b:=h - 1) g5;grind
   have h4:(A7 d l k fr h).length<=(to+1 - fr).toNat*(600*d.bh.length):=aoA H_ (aoz _ g5);have h5:=th E V h4;grind [dT])
 obtain⟨r1,r2⟩:=O;have hS:=HV KL (Ia d l k fr to) (M4 d l k fr to);have X:aj (kR d l to k) 4098 0 ([],fr)=.inl (A7 d l k fr to):=r2;rw[X];simp only;rw[hS.2];refine⟨⟨wC d l,λ_ _ _ _=>⟨r1,λz hz=>g6,λx hx=>?_⟩⟩,g6⟩;grind
 rw[decide_eq_false E,if_pos E];simp only[aoS,cond_true];exact⟨⟨wC d l,λ_ h=>by cases h⟩,rfl⟩;have Y:(ba d l !=0)=true:=g6
 rw[Y];simp only[cond_true,ne_eq,hc,not_false_eq_true,if_true,if_false];exact⟨⟨wC d l,λh=>by cases h⟩,trivial⟩
def ofF (x:arv):Option Claim:=if x.reach<0 then some x.W2 else none
def ofL (d:ah)(l:List bn)(k a b:Int):List Claim:=(tg d l k a b).filterMap ofF
def lim {α:Type}(e:Int)(l:List α):List α×Int:=if e=0 then(if 4096<l.length then([],2)else(l,0))else([],e)
theorem Sl{fr to:Int}(h:yh d l fr to k=0):(tg d l k fr to).length<=2457600:=by
 rw[<-(Ia d l k fr to).length_eq];unfold yh at h;split at h
 omega;split at h
 cases h;rename_i h2;have h2:uN d fr to k:=Classical.not_not.1 h2;split at h
 cases h;rename_i E;exact th h2 E H_
theorem Ib (d:ah)(l:List bn)(fr to k:Int):sN d l fr to k/\aN d l fr to k=lim (yh d l fr to k) (ofL d l k fr to):=by
 obtain⟨h1,h2⟩:=af3 d l fr to k;by_cases O:yh d l fr to k=0
 rw[if_pos O]at h2;have V:=Sl O;have hstep:∀ j s,j< (tg d l k fr to).length->qy d l fr to k j s=.inr (s++(ofF ((tg d l k fr to).getD j default)).toList):=λj s X=>by
  unfold qy ofF;grind
 refine⟨⟨h1,λ_ _=>?_⟩,?_⟩;rw[h2];refine MZ (tg d l k fr to) default ofF [] hstep λj X=>?_;intro _;grind [dT]
 unfold aN lim;have E:=H8 _ default ofF [] hstep;rw[h2];simp only[bne_self_eq_false,cond_false];rw[E,if_pos O,aos];show(bif decide (((ofL d l k fr to).length:Int) > 4096)then([],2)else(ofL d l k fr to,0))=_;grind
 rw[if_neg O]at h2;have W:((fG d l fr to k).2 !=0)=true:=g6
 refine⟨⟨h1,λh=>g6⟩,?_⟩;unfold aN lim;grind
theorem TW {α β γ:Type}(f:α->List β)(g:β->Option γ):∀ l:List α,(l.flatMap f).filterMap g=l.flatMap λa=>(f a).filterMap g
 | [] =>rfl
 |a::l=>by rw[aoF,aoF,aqC,TW f g l]
def ofH (d:ah)(l:List bn)(k h:Int):List Claim:=(uM d l h k).filterMap λc=>if M3 d c.dd h<0 then some c else none
theorem af4 (d:ah)(l:List bn)(k fr to:Int):ofL d l k fr to=(hrs fr to).flatMap (ofH d l k):=by
 unfold ofL tg;rw[TW];congr 1
 funext h
 rw[List.filterMap_map];rfl
def qD (x:Range)(a:Int):Bool:=(((decide (x.lo>=0))&&(decide (x.lo<=x.hi)))&&(decide (x.hi<=a)))
@[go_sem] def DK:m0:=(pD .range λx=>(pI λa=>(pE (.det True (.v (.bool (qD x a)))))))
theorem Cl:X1 prog 148 DK:=by
 have hG:=mG Y1 Y1;refine fN hG f148 [.o] (ax λx=>(aG λE=>(am (λO=>?_))));dsimp only[an]at O;refine⟨nbl rfl,L0,ag _,?_⟩;unfold ae f148;try unfold qD
 exact zq2
def ua (n a b:Int):Bool:=((decide (n>=a))&&(decide (n<=b)))
@[go_sem] def P6:m0:=(pI λn=>(pI λa=>(pI λb=>(pE (.det True (.v (.bool (ua n a b))))))))
theorem Cm:X1 prog 150 P6:=by
 have hG:=mG Y1 Y1;refine fN hG f150 [.o] (aG λn=>(aG λlo=>(aG λhi=>(am (λE=>?_)))));dsimp only[an]at E;refine⟨nbl rfl,L0,ag _,?_⟩;unfold ae f150;try unfold ua
 exact zq2
def qE (a:api):Bool:=(((aY a) ==0)&&(ua a.n 0 a.d))
@[go_sem] def Ic:m0:=(pD .ratio λa=>(pE (.det True (.v (.bool (qE a))))))
theorem Fg:X1 prog 220 Ic:=by
 have hG:=mG (cp Cm (cp qe Y1)) Y1;refine fN hG f220 [.o] (ax λa=>(am (λE=>?_)));dsimp only[an]at E;refine⟨nbl rfl,L0,ag _,?_⟩;unfold ae f220;try unfold qE
 exact zq2
def oR (a:api×api):Bool:=(bif((!(qE a.1)) ||(!(qE a.2)))then false else(((iU a.1 a.2).2==0)&&(decide ((iU a.1 a.2).1<=0))))
@[go_sem] def Fh:m0:=(pD .ast λa=>(pE (.det True (.v (.bool (oR a))))))
theorem DL:X1 prog 149 Fh:=by
 have hG:=mG (cp Fg (cp B3 Y1)) Y1;refine fN hG f149 [.o] (ax λa=>(am (λE=>?_)));dsimp only[an]at E;refine⟨nbl rfl,L0,ag _,?_⟩;unfold ae f149;try unfold oR
 exact zq2
def iE (r:Reach)(n:Int):Int:=(bif((!(qD r.asu 1073741824)) ||(!(oR r.ar3)))then 210 else(bif(!(ua n 0 1073741824))then 1 else 0))
@[go_sem] def Id:m0:=(pD .reach λr=>(pI λn=>(pE (.det True (.i (iE r n))))))
theorem xX:X1 prog 92 Id:=by
 have hG:=mG (cp Cl (cp DL (cp Cm Y1))) Y1;refine fN hG f92 [.o] (ax λr=>(aG λn=>(am (λE=>?_))));dsimp only[an]at E;refine⟨nbl rfl,L0,ag _,?_⟩;unfold ae f92;try unfold iE
 exact zq2
def iN (r:Reach)(v:Int):Range:=letI a:=i64.wrap (r.asu.hi+(fB r.ar3.2 v).2.1);letI b:=i64.wrap (r.asu.lo+(fB r.ar3.1 v).1);(bif(v==0)then({ lo:=0,hi:=0}:Range)else({ lo:=(if b<v then b else v),hi:=(if a<v then a else v)}:Range))
@[go_sem] def JR:m0:=(pD .reach λr=>(pI λv=>(pE (.det True (.agg (cellsOf .range (iN r v)))))))
theorem y_:X1 prog 93 JR:=by
 have hG:=mG (cp yU Y1) Y1;refine fN hG f93 [.st .range] (ax λr=>(aG λv=>(am (λE=>?_))));dsimp only[an]at E;refine⟨nbl rfl,L0,ag _,?_⟩;unfold ae f93;try unfold iN
 exact zq2
def gS (r:Reach)(v:Int):Int×Int:=(bif((iE r v) !=0)then(0,(iE r v))else((i64.wrap (v - (iN r v).hi)),0))
@[go_sem] def Ie:m0:=(pD .reach λr=>(pI λv=>(pE (.det True (.tup [.i ((gS r v).1),.i ((gS r v).2)])))))
theorem tj:X1 prog 52 Ie:=by
 have hG:=mG (cp xX (cp y_ Y1)) Y1;refine fN hG f52 [.o,.o] (ax λr=>(aG λv=>(am (λE=>?_))));dsimp only[an]at E;refine⟨nbl rfl,L0,ag _,?_⟩;unfold ae f52;try unfold gS
 exact zq2
def rZ (v:Int)(r:Reach):Int:=(i64.wrap (v - (iN r v).hi))
@[go_sem] def Fi:m0:=(pI λv=>(pX .reach λr=>(pE (.det True (.i (rZ v r))))))
theorem DM:X1 prog 139 Fi:=by
 have hG:=mG (cp y_ Y1) Y1;refine fN hG f139 [.o] (aG λv=>(ii λr=>(am (λE=>?_))));dsimp only[an]at E;refine⟨nbl rfl,L0,ag _,?_⟩;unfold ae f139;try unfold rZ
 exact zq2
def gh (v:Int)(r:Reach)(w:Int):Bool:=(decide ((rZ v r) > w))
@[go_sem] def DN:m0:=(pI λv=>(pXF 139 (pX .reach λr=>(pE ((pX .int λw=>(pE (.det True (.v (.bool (gh v r w)))))))))))
theorem Cn:X1 prog 210 DN:=by
 have hG:=mG (cp DM Y1) Y1;refine fN hG f210 [.o] (aG λv=>(BV (ii λr=>(am ((ii λw=>(am (λE=>?_))))))));dsimp only[an]at E;refine⟨nbl rfl,L0,ag _,?_⟩;unfold ae f210;try unfold gh
 exact zq2
@[go_sem] def lz (r:Reach)(w:Int)(c:Nat)(a:Int×Int):Int⊕(Int×Int):=letI b:=i64.wrap (ol .u64 (u64.wrap (i64.wrap (a.1+a.2))) 1);(bif(decide (a.1<a.2))then(bif(!(gh b r w))then .inr ((i64.wrap (b+1)),a.2)else .inr (a.1,b))else .inl a.1)
def vE (n:Int)(r:Reach)(w:Int):Int:=(match aj (lz r w) 64 0 (0,n)with| .inl a=>a| .inr b=>default)
def r7 (n:Int)(r:Reach)(w:Int):Prop:=(∀ z_,aj (lz r w) 64 0 (0,n)≠ .inr z_)
@[go_sem] def JS:m0:=(pI λn=>(pFn 210 (pXF 139 (pX .reach λr=>(pE ((pX .int λw=>(pE ((pE (.det (r7 n r w) (.i (vE n r w)))))))))))))
theorem If:X1 prog 209 JS:=by
 have hG:=mG (cp Cn Y1) Y1;refine fN hG f209 [.o] (aG λn=>(o5 (BV (ii λr=>(am ((ii λw=>(am ((am (λW=>?_)))))))))));dsimp only[an]at W;unfold r7 at W;refine⟨nbl rfl,(λid st=>bif Nat.beq id 0 then some (LCV (ρ:=Int) (σ:=(Int×Int)) 0 [] [] (λV O=>⟨[(1,.fn 210 [] [.ep [.fn 139 [] [.ep (cellsOf .reach r) 0]] 0,.ep [.i w] 0]),(5,.i O.1),(6,.i O.2)],[]⟩) (lz r w) pT 64 (0,n) (λ_=>.normal) (λE=>⟨[(5,.i E)],[]⟩) st)else none),?_,?_⟩;unfold ae f209;simp only[ak,true_and,and_true];refine fw mixed aB hG kr (λ_=>rfl) λV O _=>⟨L0,ag _,?_⟩;exact cJ (jl []);unfold ae f209;try unfold vE
 exact zq2
def gz (w:Int)(r:Reach):Int:=(vE 1073741825 r w)
def uO (w:Int)(r:Reach):Prop:=(r7 1073741825 r w)
@[go_sem] def Ig:m0:=(pI λw=>(pFn 139 (pX .reach λr=>(pE ((pE (.det (uO w r) (.i (gz w r)))))))))
theorem Fj:X1 prog 138 Ig:=by
 have hG:=mG (cp If Y1) Y1;refine fN hG f138 [.o] (aG λw=>(o5 (ii λr=>(am ((am (λE=>?_)))))));dsimp only[an]at E;unfold uO at E;refine⟨nbl rfl,L0,ag _,?_⟩;unfold ae f138;try unfold gz
 exact zq2
def gC (r:Reach)(w:Int):Int×Bool×Int:=(bif((iE r w) !=0)then(0,false,(iE r w))else(bif(decide ((gz (i64.wrap (w - 1)) r) > 1073741824))then(0,false,0)else((gz (i64.wrap (w - 1)) r),true,0)))
def mr (r:Reach)(w:Int):Prop:=(((iE r w) !=0)=false->(uO (i64.wrap (w - 1)) r))
@[go_sem] def Az:m0:=(pD .reach λr=>(pI λw=>(pE (.det (mr r w) (.tup [.i ((gC r w).1),.v (.bool ((gC r w).2.1)),.i ((gC r w).2.2)])))))
theorem uP:X1 prog 84 Az:=by
 have hG:=mG (cp xX (cp Fj Y1)) Y1;refine fN hG f84 [.o,.o,.o] (ax λr=>(aG λw=>(am (λE=>?_))));dsimp only[an]at E;unfold mr at E;refine⟨nbl rfl,L0,ag _,?_⟩;unfold ae f84;try unfold gC
 exact zq2
def bf (x:Reach)(w:Int):Int×Bool:=(bif((w==0) ||(decide (w > 1073741824)))then(0,(w==0))else(bif(!(gC x w).2.1)then(0,false)else((if(gC x w).1<x.arR then x.arR else(gC x w).1),true)))
def oc (x:Reach)(w:Int):Prop:=(((w==0) ||(decide (w > 1073741824)))=false->(mr x w))
@[go_sem] def DO:m0:=(pD .reach λx=>(pI λw=>(pE (.det (oc x w) (.tup [.i ((bf x w).1),.v (.bool ((bf x w).2))])))))
theorem Co:X1 prog 170 DO:=by
 have hG:=mG (cp uP Y1) Y1;refine fN hG f170 [.o,.o] (ax λx=>(aG λw=>(am (λE=>?_))));dsimp only[an]at E;unfold oc at E;refine⟨nbl rfl,L0,ag _,?_⟩;unfold ae f170;try unfold bf
 exact zq2
abbrev ox:SV:=.ls 1 [.fn 248 [] [],.fn 249 [] [],.fn 250 [] []]
open Classical in
noncomputable def tP:m0:=λl=>if l=[ox]then some (.det True (.fn 298 [] [.ep [ox] 0]))else none
theorem JT:X1 prog 247 tP:=by
 have hG:arD prog (mkG [] []):=na (by simp) (by simp);refine xa [.o] mixed aB hG (fn:=f247) (c:=ae f247) kr kr kr kr λl O h V=>?_;unfold tP at h;split at h
 rename_i E;subst E;cases h;refine⟨nbl rfl,L0,by simp_all [ae,f247,ak],?_⟩;unfold ae f247;simp only[go_sem,ox,true_imp_iff,Nat.reduceBEq,Nat.reduceLeDiff,Nat.reduceAdd,Nat.reduceSub,Nat.reduceMul,true_and,and_true,implies_true,aoO,aoZ];rfl;cases h
def gT:m0:=pE (.det True (.fn 298 [] [.ep [ox] 0]))
theorem uQ:X1 prog 172 gT:=by
 have hG:arD prog (mkG [(247,tP)] []):=na (by
  intro x E;simp only[aoD,apn,or_false]at E;rcases E with rfl;exact JT) (by simp)
 refine xa [.o] mixed aB hG (fn:=f172) (c:=ae f172) kr kr kr kr λl O h V=>?_;unfold gT at h;obtain⟨rfl,rfl⟩:=nc h;refine⟨nbl rfl,L0,by simp_all [ae,f172,ak],?_⟩;unfold ae f172;simp only[go_sem,tP,ox,true_imp_iff,Nat.reduceBEq,Nat.reduceLeDiff,Nat.reduceAdd,Nat.reduceSub,Nat.reduceMul,true_and,and_true,implies_true,aoO,aoZ,if_true];rfl
def uR (k:Nat)(x:Order):Int:=match k with|0=>qf x|1=>uB x|_=>qg x
def zO (a b:Order):Nat->Unit->Int⊕Unit:=λk _=>bif(bv (uR k a) (uR k b) !=0)then .inl (bv (uR k a) (uR k b))else .inr ()
def aA (a b:Order):Int:=match aj (zO a b) 3 0 ()with| .inl x=>x| .inr _=>0
open Classical in
noncomputable def nM:m0:=pD .order λa=>pD .order λb=>λl=>if l=[.ep [ox] 0]then some (.det True (.i (aA a b)))else none
theorem xY:X1 prog 298 nM:=by
 have hG:arD prog (mkG [(82,qd),(248,oo),(249,ri),(250,oq)] []):=na (by
  intro x hx;simp only[aoD,apn,or_false]at hx;rcases hx with rfl|rfl|rfl|rfl;exact fA;exact yS;exact B5;exact yT) (by simp)
 refine xa [.o] mixed aB hG (fn:=f298) (c:=ae f298) kr kr kr kr λl con h hp=>?_;unfold nM at h;obtain⟨a,l0,rfl,h0⟩:=ut h;obtain⟨b,l1,rfl,h1⟩:=ut h0;split at h1
 rotate_left
 cases h1;rename_i hl;subst hl;cases h1;clear h h0;obtain⟨X,ai,W,O⟩:=a;obtain⟨V,bi,Y,E⟩:=b;refine⟨nbl rfl,(λid st=>bif Nat.beq id 0 then some (LC (ρ:=Int) (σ:=Unit) (lk 3 st.t=.ptr 0 0/\lk 4 st.t=.ptr 1 0/\lk 9 st.t=ox/\lk 10 st.t=.i 3/\lk 11 st.t=.i 0/\st.h=[.cells (cellsOf .order ⟨X,ai,W,O⟩),.cells (cellsOf .order ⟨V,bi,Y,E⟩)]) (aj (zO ⟨X,ai,W,O⟩ ⟨V,bi,Y,E⟩) 3 0 ()) (λ_=>.ret) (λx=>⟨[(5,.i x)],[.dead,.dead]⟩) (λ_=>⟨[],[.dead,.dead]⟩))else none),?_,?_⟩
 ·unfold ae f298;simp only[ak,true_and,and_true];refine Kw mixed aB hG kr λst lc hC hp=>?_;simp only[go_sem,Nat.reduceBEq,aoo]at hC;subst hC;obtain⟨t,h⟩:=st;dsimp only[LC]at hp;obtain⟨e1,e2,e3,e4,e5,rfl⟩:=hp;refine⟨_,_,_,zO ⟨X,ai,W,O⟩ ⟨V,bi,Y,E⟩,λ_ _=>True,3,(),_,_,_,(λk _=>⟨[(3,.ptr 0 0),(4,.ptr 1 0),(9,ox),(10,.i 3),(11,.i (k:Int))],[.cells (cellsOf .order ⟨X,ai,W,O⟩),.cells (cellsOf .order ⟨V,bi,Y,E⟩)]⟩),[0,1],rfl,iA _ _ _ λ_ _ _ _=>trivial,aom _,?_,λk s hk hpk=>⟨L0,?_,?_⟩⟩;simp only[go_sem,e1,e2,e3,e4,e5,ox,Nat.reduceBEq,Nat.reduceLeDiff,Nat.reduceAdd,true_and,and_true];grind
  simp only[ak,and_self,true_and,and_true]
  ·have hk4:k=0\/k=1\/k=2\/k=3:=g5
   have hw0:i64.wrap ((0:Int)+1)=((0+1:Nat):Int):=by decide
   have hw1:i64.wrap ((1:Int)+1)=((1+1:Nat):Int):=by decide
   have hw2:i64.wrap ((2:Int)+1)=((2+1:Nat):Int):=by decide
   rcases hk4 with rfl|rfl|rfl|rfl;all_goals
    simp only[go_sem,qd,oo,ri,oq,ox,zO,uR,true_imp_iff,false_imp_iff,aot,aol,arg,Nat.reduceBEq,Nat.reduceLeDiff,Nat.reduceAdd,Nat.reduceSub,Nat.reduceMul,Nat.reduceLT,Int.reduceLE,Int.reduceLT,Int.reduceToNat,Int.reduceNeg,true_and,and_true,and_self,implies_true,forall_const,reduceCtorEq,aqO]
   all_goals (first|done|(repeat' (first|with_reducible refine And.intro ?_ ?_|((with_reducible show _≠_);first|assumption|omega|(simp_all;done) |grind) |with_reducible intro _)) <;>(first|done|assumption|rfl|omega|decide|(simp only[*,cond_true,cond_false,go_sem,true_imp_iff,false_imp_iff,aot,aol,arg,Nat.reduceBEq,Nat.reduceLeDiff,Nat.reduceAdd,Nat.reduceSub,Nat.reduceMul,Int.reduceLE,Int.reduceLT,Int.reduceToNat,Int.reduceNeg,true_and,and_true,and_self,implies_true,forall_const,reduceCtorEq];done) |(simp only[*,cond_true,cond_false,go_sem,true_imp_iff,false_imp_iff,aot,aol,arg,Nat.reduceBEq,Nat.reduceLeDiff,Nat.reduceAdd,Nat.reduceSub,Nat.reduceMul,Int.reduceLE,Int.reduceLT,Int.reduceToNat,Int.reduceNeg,true_and,and_true,and_self,implies_true,forall_const,reduceCtorEq];(repeat' (first|with_reducible refine And.intro ?_ ?_|((with_reducible show _≠_);first|assumption|omega|(simp_all;done) |grind) |with_reducible intro _)) <;>(first|done|assumption|rfl|omega|decide))))
   all_goals trace_state
 unfold ae f298;unfold aA;simp only[go_sem,ox,true_imp_iff,false_imp_iff,aot,Nat.reduceBEq,Nat.reduceLeDiff,Nat.reduceAdd,Nat.reduceSub,Nat.reduceMul,true_and,and_true,implies_true,sz,aoO,aoZ];grind
attribute [go_sem] gT nM
@[go_sem] def jM (b:ah)(d:List Order)(c:Nat)(k:Unit):Unit⊕Unit:=letI a:=d.getD c default;letI e:=(decide ((c:Int) > 0))&&(decide ((aA (d.getD (Int.toNat (i64.wrap ((c:Int) - 1))) default) a)>=0));letI f:=decide (a.bl > 1073741824);letI g:=decide (a.hour>=b.hours);letI h:=decide (a.bl<1);letI i:=decide (a.index<0);letI j:=decide (a.hour<0);(bif a.S2 then(bif((((((j||g) ||i) ||(decide (a.index>=(b.zs.length:Int)))) ||h) ||f) ||e)then .inl ()else .inr ())else(bif((((((j||g) ||i) ||(decide (a.index>=(b.reaches.length:Int)))) ||h) ||f) ||e)then .inl ()else .inr ()))
def lP (b:ah)(d:List Order)(c:Nat)(l:Unit):Prop:=letI a:=d.getD c default;letI e:=i64.wrap ((c:Int) - 1);letI f:=(decide ((c:Int) > 0))=true->(0<=e/\e< (d.length:Int));letI g:=decide (a.bl > 1073741824);letI h:=decide (a.hour>=b.hours);letI i:=decide (a.bl<1);letI j:=decide (a.index<0);letI k:=decide (a.hour<0);(b.reaches.length<=aI->((a.S2=true->(b.zs.length<=aI->((((((k||h) ||j) ||(decide (a.index>=(b.zs.length:Int)))) ||i) ||g)=false->f)))/\(a.S2=false->((((((k||h) ||j) ||(decide (a.index>=(b.reaches.length:Int)))) ||i) ||g)=false->f))))
def dp (a:ah)(b:List Order):Int:=(bif((av a) !=0)then(av a)else(bif(decide ((b.length:Int) > 4096))then 2 else(match aj (jM a b) b.length 0 ()with| .inl c=>220| .inr d=>0)))
def mb (b:ah)(a:List Order):Prop:=(((av b) !=0)=false->(a.length<=aI->((decide ((a.length:Int) > 4096))=false->(a.length<=aI->okI (jM b a) (lP b a) a.length 0 ()))))
@[go_sem] def Fk:m0:=(pD .al λa=>(pR .order λb=>(pE (.det (mb a b) (.i (dp a b))))))
theorem akM {p:Prop}(h:p:=by simp only[go_sem,gT,nM,if_true];all_goals exact cl):p:=h
theorem wI:X1 prog 177 Fk:=by
 have hG:=mG (cn [.st .al] o6 (cp uQ (cp xY Y1))) Y1;refine fN hG f177 [.o] (ax λa0=>(bG λa1=>(am (λY=>?_))));dsimp only[an]at Y;unfold mb at Y;refine⟨nbl rfl,(λid st=>bif Nat.beq id 0 then some (LCR (ρ:=Unit) (σ:=Unit) 1 [] [0] (λE V=>⟨[(1,.rs .order a1),(2,.ptr 0 0),(5,.fn 298 [] [.ep [.ls 1 [.fn 248 [] [],.fn 249 [] [],.fn 250 [] []]] 0]),(18,.rs .order a1),(19,.i (a1.length:Int)),(20,.i E)],[.cells (cellsOf .al a0)]⟩) (jM a0 a1) (lP a0 a1) a1.length () (a1.length<=aI) (λ_=>.ret) (λW=>⟨[(4,.i 220)],[.dead]⟩) st)else none),?_,?_⟩;unfold ae f177;simp only[ak,true_and,and_true];refine bu mixed aB hG kr (λ_=>rfl) (a1.length:Int) rfl fO (λhb0 E V X O hw hc=>⟨L0,ag _,?_⟩) (λhb0 V hc=>?_);unfold lP at O;try simp only[hw,aol]at O
 exact bC (jl [0]);exact bD (jl [0]);unfold ae f177;try unfold dp
 exact akM
def eF (d:ah)(a:List Order):Int:=(bif(((dp d a) ==0)&&(decide ((i64.wrap ((d.reaches.length:Int)*d.hours)) > 1024)))then 2 else(dp d a))
def od (d:ah)(a:List Order):Prop:=(mb d a)
@[go_sem] def DP:m0:=(pD .al λd=>(pR .order λa=>(pE (.det (od d a) (.i (eF d a))))))
theorem Cp:X1 prog 167 DP:=by
 have hG:=mG (cn [.st .al,.sl .order] wI Y1) Y1;refine fN hG f167 [.o] (ax λd=>(bG λO=>(am (λE=>?_))));dsimp only[an]at E;unfold od at E;refine⟨nbl rfl,L0,ag _,?_⟩;unfold ae f167;try unfold eF
 exact zq2
def Cq (a:Order):Int:=bif a.S2 then 1 else 0
def olt (a b:Order):Prop:=a.hour<b.hour\/a.hour=b.hour/\(Cq a<Cq b\/Cq a=Cq b/\a.index<b.index)
theorem KW {a b:Order}(h:aA a b<0):olt a b:=by
 unfold aA at h;unfold olt;have E:∀ x,uR 0 x=x.hour:=λ_=>rfl;have O:∀ x,uR 1 x=Cq x:=λ_=>rfl;have k2:∀ x,uR 2 x=x.index:=λ_=>rfl;simp only[aj,zO,aou,Nat.reduceAdd,E,O,k2,kD]at h;grind
theorem KX {a b c:Order}(h1:olt a b)(h2:olt b c):olt a c:=by
 grind [olt]
theorem P7 (a b:Order):aA a b<0↔olt a b:=by
 refine⟨KW,λh=>?_⟩;unfold aA;have E:∀ x,uR 0 x=x.hour:=λ_=>rfl;have O:∀ x,uR 1 x=Cq x:=λ_=>rfl;have k2:∀ x,uR 2 x=x.index:=λ_=>rfl;simp only[aj,zO,aou,Nat.reduceAdd,E,O,k2,kD];grind [olt]
open Go.Shelf Go.Sort in
theorem xz:SWO (ltOf aA):=by
 have e:∀ x y,ltOf aA x y=true↔olt x y:=λx y=>by unfold ltOf;rw[decide_eq_true_eq,P7]
 have e':∀ x y,ltOf aA x y=false↔¬olt x y:=λx y=>g6
 refine⟨λx=>(e' x x).2 (by unfold olt;omega),λx y z h1 h2=>(e x z).2 (KX ((e x y).1 h1) ((e y z).1 h2)),λx y z h1 h2=>(e' x z).2 ?_⟩;grind [olt]
structure atk (d:ah)(x:Order):Prop where
 as5:0<=x.hour
 hour:x.hour<d.hours
 asP:0<=x.index
 dd:x.S2=true->x.index< (d.zs.length:Int)
 reach:x.S2=false->x.index< (d.reaches.length:Int)
 asS:1<=x.bl
 bl:x.bl<=1073741824
theorem Ih (d:ah)(l:List Order):mb d l:=λ_ h1 _ _=>iA _ _ _ λj s h2 E=>by
 unfold aI at h1;unfold lP;have e:decide ((j:Int) > 0)=true->(0<=i64.wrap ((j:Int) - 1)/\i64.wrap ((j:Int) - 1) < (l.length:Int)):=λh=>by
  simp only[decide_eq_true_eq]at h;grind [pA]
 grind
structure arS (d:ah)(l:List Order):Prop where
 right:arW d
 len:l.length<=4096
 one:∀ k,k<l.length->atk d (l.getD k default)
 asc:∀ k,k+1<l.length->aA (l.getD k default) (l.getD (k+1) default) <0
variable {d:ah}{l:List Order}
theorem uS(h:(dp d l !=0)=false):arS d l:=by
 have h:dp d l=0:=by simpa using h
 unfold dp at h;cases h1:av d !=0 with
 |true=>grind
 |false=>
  rw[h1]at h;simp only[cond_false]at h;cases h2:decide ((l.length:Int) > 4096)with
  |true=>grind
  |false=>
   rw[h2]at h;simp only[cond_false]at h;have W:l.length<=4096:=g6
   split at h
   cases h;rename_i s V;have key:∀ k,k<l.length->atk d (l.getD k default)/\(0<k->aA (l.getD (k - 1) default) (l.getD k default) <0):=by
    intro k E;have:=n9 V k g5 g5;have Y:((k:Int) > 0)->(i64.wrap ((k:Int) - 1)).toNat=k - 1:=λh=>by
     grind [pA]
    unfold jM at this;generalize X:l.getD k default=x at this |-;cases O:x.S2 with
    |true=>
     rw[O]at this;simp only[cond_true]at this;rw[aoR]at this;split at this
     cases this;rename_i hc;simp only[apK,aoY,aps,decide_eq_false_iff_not]at hc;refine⟨⟨g5,g5,g5,λ_=>g5,λh=>g6,g5,g5⟩,λhk0=>?_⟩;grind
    |false=>
     rw[O]at this;simp only[cond_false]at this;rw[aoR]at this;split at this
     cases this;rename_i hc;simp only[apK,aoY,aps,decide_eq_false_iff_not]at hc;refine⟨⟨g5,g5,g5,λh=>g6,λ_=>g5,g5,g5⟩,λhk0=>?_⟩;grind
   exact⟨kE h1,W,λk E=>(key k E).1,λk E=>(key (k+1) E).2 g5⟩
structure atu (i:Int)(x:Reach):Prop where
 up:x.up<i
 atf:1<=x.delay
 delay:x.delay<=16
 atW:0<=x.arR
 arR:x.arR<=x.cap
 cap:x.cap<=1073741824
 ar6:x.arR<=x.ar6
 avi:x.ar6<=1099511627776
theorem KY {i:Int}{x:Reach}(hi:0<=i)(h:cH i x=true):atu i x:=by
 unfold cH at h;cases hd:decide (i > 0)with
 |true=>
  rw[hd]at h;simp only[cond_true,aoj,cU,decide_eq_true_eq]at h hd;obtain⟨⟨⟨⟨⟨W,h1⟩,h2⟩,E⟩,O⟩,V⟩:=h;have:=xm h1;have:=rR h2;have:=rR E;constructor <;>omega
 |false=>
  rw[hd]at h;simp only[cond_false,aoj,beq_iff_eq,decide_eq_false_iff_not]at h hd;obtain⟨⟨⟨⟨⟨W,h1⟩,h2⟩,E⟩,O⟩,V⟩:=h;have:=xm h1;have:=rR h2;have:=rR E;constructor <;>omega
theorem arW.asY(h:arW d){k:Nat}(E:k<d.reaches.length):atu k (d.reaches.getD k default):=KY g5 (h.reach k E)
theorem arW.atv(h:arW d){i:Int}(E:0<=i)(hi:i< (d.reaches.length:Int)):atu i (d.reaches.getD i.toNat default):=by
 have:=h.asY (k:=i.toNat) g5;grind
theorem AA (d:ah)(l:List Order):dp d l=0↔av d=0/\l.length<=4096/\∀ k,k<l.length->jM d l k ()=.inr ():=by
 unfold dp;cases h1:(av d !=0)with
 |true=>grind
 |false=>
  simp at h1;simp only[cond_false,h1,true_and];grind [iM]
theorem arS.lt(h:arS d l):∀ (k j:Nat),j<k->k<l.length->olt (l.getD j default) (l.getD k default)
 |k+1,j,h1,h2=>by
  have E:=KW (h.asc k g5);by_cases e:j=k
  grind
  exact KX (h.lt k j g5 g5) E
def b7 (p:Order->Bool):List Order->Int
 | [] =>0|x::r=>(bif p x then x.bl else 0)+b7 p r
theorem Cr (p:Order->Bool)(a b:List Order):b7 p (a++b)=b7 p a+b7 p b:=by
 induction a with
 |nil=>simp[b7]|cons x r E=>grind [b7]
variable {p:Order->Bool}
theorem A8(h:∀ x∈l,1<=x.bl/\x.bl<=1073741824):0<=b7 p l/\b7 p l<=l.length*1073741824:=by
 induction l with
 |nil=>simp[b7]
 |cons x r E=>
  have h1:=E λa O=>h a (aor _ O);have h2:=h x aow;simp only[b7,aon];grind
theorem pH(h:∀ x∈l,p x=false):b7 p l=0:=by
 induction l with
 |nil=>rfl
 |cons x r E=>
  grind [b7]
variable {q:Order->Bool}
theorem uT(h:∀ x∈l,p x=q x):b7 p l=b7 q l:=by
 induction l with
 |nil=>rfl
 |cons x r E=>
  grind [b7]
theorem P8{r:Order->Bool}(h:∀ x∈l,(r x=(p x||q x))/\(p x&&q x)=false):b7 p l+b7 q l=b7 r l:=by
 induction l with
 |nil=>rfl
 |cons x t E=>
  simp only[b7];grind
variable {j:Nat}
theorem P9(O:j<l.length)(h:p l[j]=true)(hn:∀ i (hi:i<l.length),i≠j->p l[i]=false):b7 p l=l[j].bl:=by
 have e:l=l.take j++l[j]::l.drop (j+1):=by simp_all
 conv=>lhs;rw[e,Cr]
 rw[pH λx E=>?_];simp only[b7,h,cond_true];rw[pH λx E=>?_];omega;obtain⟨i,hi,rfl⟩:=aoM E;grind
 obtain⟨i,hi,rfl⟩:=aoM E;grind
theorem arS.lit(h:arS d l):∀ x∈l,1<=x.bl/\x.bl<=1073741824:=λx O=>by
 obtain⟨k,E,rfl⟩:=aoM O;have:=h.one k E;rw[ik _ _ E]at this;exact⟨this.asS,this.bl⟩
theorem arS.uniq(h:arS d l){i:Nat}(hi:i<l.length)(hj:j<l.length)(X:l[i].hour=l[j].hour)(Y:l[i].index=l[j].index)(V:l[i].S2=l[j].S2):i=j:=by
 have key:∀ a b (W:a<l.length) (O:b<l.length),a<b->l[a].hour=l[b].hour->l[a].index=l[b].index->l[a].S2=l[b].S2->False:=λa b W O E X Y V=>by
  have:=h.lt b a E O;grind [olt,Cq]
 grind
theorem rG(E:j<l.length):b7 p (l.take (j+1))=b7 p (l.take j)+(bif p l[j]then l[j].bl else 0):=by
 rw[aoX E,Cr];simp[b7]
theorem A9 {κ υ:Type}[DecidableEq κ]:∀ (l:List (κ×υ)) (x:κ) (y:υ),(u5 l x y).map Prod.fst=if x∈l.map Prod.fst then l.map Prod.fst else l.map Prod.fst++[x]
 | [],x,y=>by simp[u5]
 |(a,b)::r,x,y=>by
  unfold u5;by_cases h:x=a
  subst h;simp;rw[if_neg h,aoO,A9 r x y];grind
theorem P_ {κ υ:Type}[DecidableEq κ]:∀ (l:List (κ×υ)) (e:κ×υ),(l.map Prod.fst).Nodup->e∈l->jy l e.1=some e.2
 |(a,b)::r,e,hn,he=>by
  simp only[aoO,ao2]at hn;unfold jy;rcases aoD.1 he with rfl|he;simp;have:e.1≠a:=λh=>hn.1 (h▸apZ he);rw[if_neg this];exact P_ r e hn.2 he
theorem DQ {α:Type}(l:List α)(d:α){k:Nat}(h:k<l.length):l.getD k d∈l:=by
 grind
theorem Qa {n d:Int}(hd:1<=d)(E:d<=1073741824)(h1: -1152921504606846976<=n)(h2:n<=1152921504606846976):nh n d=n / d:=by
 unfold nh;have O:Int.tmod (Int.tmod n d+d) d=n % d:=by
  have a1: -d<Int.tmod n d:=aqr n g5;rw[apP g5,arp];rw[aq0];split
  simp_all;have:n % d - (d.natAbs:Int)=n % d+d*(-1):=g5
  simp_all
 have a1: -d<Int.tmod n d:=aqr n g5;have Y:Int.tmod n d<d:=arq n g5;rw[aw (by omega: -9223372036854775808<=Int.tmod n d+d) g5,O];have b1:=aqm n (by omega:d≠0);have X:=ap6 n (by omega:0<d);rw[aw (by omega: -9223372036854775808<=n - n % d) g5];have V:n - n % d=d*(n / d):=by have:=ap9 n d;omega
 rw[V,aqS _ g5];have c1:n / d<=1152921504606846976:=by
  have:=ap4 (by omega:0<d) h2;have:=aqF (b:=d) (by omega:(0:Int)<=1152921504606846976);omega
 have W: -1152921504606846976<=n / d:=by
  rw[apH g5];omega
 exact aw g5 g5
structure Rat (a:api):Prop where
 d1:1<=a.d
 d:a.d<=1073741824
 n0: -1073741824<=a.n
 n:a.n<=1073741824
theorem YZ {a:api}(h:aY a=0):Rat a:=by
 unfold aY at h;rw[aoR]at h;split at h
 cases h;rename_i h1;simp only[aoN,decide_eq_true_eq,not_or]at h1;constructor <;>omega
theorem A_ {i:Int}{x:Reach}(h:cH i x=true):ky x.ar3=true/\0<=x.asu.lo/\x.asu.lo<=x.asu.hi/\x.asu.hi<=1073741824:=by
 unfold cH at h;cases hd:decide (i > 0) <;>rw[hd]at h <;>simp only[cond_true,cond_false,aoj]at h;all_goals
  have E:=rR h.1.2;exact⟨h.2,E.1,E.2.1,E.2.2⟩
theorem Y0 {a b:Int}(E: -1073741824<=a)(h1:a<=1073741824)(h2:0<=b)(V:b<=1073741824): -1152921504606846976<=a*b/\a*b<=1152921504606846976:=by
 have O:=ao5 E h2;have W:=ao5 h1 h2;omega
structure aug (x:api×api):Prop where
 r1:Rat x.1
 r2:Rat x.2
 c1:aY x.1=0
 c2:aY x.2=0
 cmp:iU x.1 x.2=((iU x.1 x.2).1,0)/\(iU x.1 x.2).1<=0
 le:x.1.n*x.2.d<=x.2.n*x.1.d
 n1:0<=x.1.n
 n2:x.2.n<=x.2.d
 m1:x.1.n<=x.1.d
 m2:0<=x.2.n
variable {x:api×api}
theorem M5(h:ky x=true):aug x:=by
 unfold ky at h;simp only[aoj,beq_iff_eq,decide_eq_true_eq]at h;obtain⟨⟨⟨h1,h2⟩,V⟩,Y⟩:=h;have hc:aY x.1=0/\aY x.2=0:=by
  unfold iU at h1;grind
 have E:=YZ hc.1;have O:=YZ hc.2;have b1:=Y0 E.n0 E.n (by have:=O.d1;omega) O.d;have b2:=Y0 O.n0 O.n (by have:=E.d1;omega) E.d;have W:x.1.n*x.2.d<=x.2.n*x.1.d:=by
  unfold iU at V;rw[hc.1,hc.2]at V;simp only[bne_self_eq_false,Bool.or_self,cond_false]at V;grind [aw,kD]
 have e1:=E.d1;have e2:=O.d1;have m1:x.1.n<=x.1.d:=by
  have:=ao5 Y (by omega:0<=x.1.d);have X:x.1.n*x.2.d<=x.1.d*x.2.d:=g6
  exact aqe X g5
 have m2:0<=x.2.n:=by
  have:=aqd h2 (by omega:0<=x.2.d);have X:0*x.1.d<=x.2.n*x.1.d:=g5
  exact aqe X g5
 exact⟨E,O,hc.1,hc.2,⟨by rw[<-h1],V⟩,W,h2,Y,m1,m2⟩
theorem Vx(h:aug x):oR x=true:=by
 unfold oR qE ua;have:=h.n1;have:=h.n2;have:=h.m1;have:=h.m2;rw[h.c1,h.c2,decide_eq_true (by omega:x.1.n>=0),decide_eq_true (by omega:x.1.n<=x.1.d),decide_eq_true (by omega:x.2.n>=0),decide_eq_true (by omega:x.2.n<=x.2.d)];have h2:=congrArg Prod.snd h.cmp.1;dsimp only at h2;rw[h2,decide_eq_true h.cmp.2];rfl
variable {v:Int}
theorem Ii{a:api}(h:Rat a)(hc:aY a=0)(O:0<=a.n)(E:0<=v)(V:v<=1073741824):(fB a v).1=a.n*v / a.d/\(fB a v).2.1= -(-(a.n*v) / a.d)/\ -(-(a.n*v) / a.d)<=1152921504606846976/\0<= -(-(a.n*v) / a.d):=by
 have:=h.d1;have:=h.d;have:=h.n;have hm:=Y0 g5 h.n E V;have W:=aqd O E;unfold fB;have X:(decide (v< (-1073741824)) ||decide (v > 1073741824))=false:=g6
 rw[hc,X];simp only[bne_self_eq_false,cond_false];rw[aw (by omega: -9223372036854775808<=0 - a.n) g5];have Y:(0 - a.n)*v= -(a.n*v):=g6
 rw[Y,aw (by omega: -9223372036854775808<= -(a.n*v)) g5,aw (by omega: -9223372036854775808<=a.n*v) g5];rw[Qa h.d1 h.d g5 g5,Qa h.d1 h.d g5 g5];have c1: -1152921504606846976<= -(a.n*v) / a.d:=by
  rw[apH g5];omega
 have c2: -(a.n*v) / a.d<=0:=by
  have:=ap4 (by omega:0<a.d) (by omega: -(a.n*v)<=0);simp_all
 grind [aw]
variable {x:Reach}
theorem FK{i:Int}(h:cH i x=true)(O:0<=v)(W:v<=1073741824):iE x v=0/\0<=(iN x v).lo/\(iN x v).lo<=(iN x v).hi/\(iN x v).hi<=v:=by
 obtain⟨h1,h2,h3,h4⟩:=A_ h;have E:=M5 h1;refine⟨?_,?_⟩;grind [iE,qD,ua,Vx]
 unfold iN;cases hv:(v==0)with
 |true=>
  grind
 |false=>
  simp only[beq_eq_false_iff_ne,ne_eq]at hv;simp only[cond_false];obtain⟨a1,_,_,_⟩:=Ii E.r1 E.c1 E.n1 O W;obtain⟨_,b1,b2,b3⟩:=Ii E.r2 E.c2 E.m2 O W;rw[a1,b1];have d1:=E.r1.d1;have d2:=E.r2.d1;have P0:0<=x.ar3.1.n*v / x.ar3.1.d:=Int.ediv_nonneg (aqd E.n1 O) g5;have X:x.ar3.1.n*v / x.ar3.1.d*x.ar3.1.d<=x.ar3.1.n*v:=Int.ediv_mul_le _ g5;have V: -(x.ar3.2.n*v) / x.ar3.2.d*x.ar3.2.d<= -(x.ar3.2.n*v):=Int.ediv_mul_le _ g5;generalize x.ar3.1.n*v / x.ar3.1.d=P at P0 X;generalize -(x.ar3.2.n*v) / x.ar3.2.d=Q at b2 b3 V;have PV:P<=v:=by
   have:=ao5 E.m1 O;have Y:P*x.ar3.1.d<=v*x.ar3.1.d:=g6
   exact aqe Y g5
  have PQ:P<= -Q:=by
   have e1:=ao5 X (by omega:0<=x.ar3.2.d);have e2:=ao5 E.le O;have e3:=ao5 V (by omega:0<=x.ar3.1.d);have Y:P*(x.ar3.1.d*x.ar3.2.d)<= -Q*(x.ar3.1.d*x.ar3.2.d):=by
    grind
   have hp:0<x.ar3.1.d*x.ar3.2.d:=Int.mul_pos g5 g5;simp_all
  grind [aw]
def wst (x:Reach)(v:Int):Int:=v - (iN x v).hi
theorem oe{i:Int}(h:cH i x=true)(E:0<=v)(O:v<=1073741824):gS x v=(wst x v,0):=by
 obtain⟨e,h1,h2,V⟩:=FK h E O;grind [gS,wst,aw]
theorem Y3{i:Int}(h:cH i x=true)(V:0<=v)(W:v<=1073741824):wst x v=max 0 ((x.ar3.2.d - x.ar3.2.n)*v / x.ar3.2.d - x.asu.hi):=by
 obtain⟨X,g2,g3,g4⟩:=A_ h;have E:=M5 X;have d1:=E.r2.d1;have Y:(x.ar3.2.d - x.ar3.2.n)*v / x.ar3.2.d=v+ -(x.ar3.2.n*v) / x.ar3.2.d:=by
  grind [Int.add_mul_ediv_left]
 rw[Y];unfold wst iN;cases O:(v==0)with
 |true=>
  simp only[beq_iff_eq]at O;subst O;simp only[cond_true,Int.mul_zero,Int.neg_zero,Int.zero_ediv];omega
 |false=>
  simp only[cond_false];obtain⟨_,b1,b2,b3⟩:=Ii E.r2 E.c2 E.m2 V W;grind [aw]
theorem abX {k d a b:Int}(E:0<=k)(hd:1<=d)(h:a<=b):k*a / d<=k*b / d:=ap4 g5 (ap5 h E)
section
variable {i:Int}{x:Reach}
theorem Sm (h:cH i x=true){v:Int}(O:0<=v)(E:v<=1073741824):0<=wst x v/\wst x v<=v:=by
 have:=FK h O E;unfold wst;omega
theorem Cs (h:cH i x=true){a b:Int}(a0:0<=a)(E:a<=b)(V:b<=1073741824):wst x a<=wst x b:=by
 have O:=M5 (A_ h).1;have:=O.r2.d1;rw[Y3 h a0 g5,Y3 h g5 V];have:=abX (k:=x.ar3.2.d - x.ar3.2.n) (d:=x.ar3.2.d) (by have:=O.n2;omega) O.r2.d1 E;omega
theorem Y4 (h:cH i x=true):wst x 0=0:=by
 rfl
end
theorem akN {i j:Int}(O:0<=i)(h1:i<=j)(h2:j<=2305843009213693952):i64.wrap (ol .u64 (u64.wrap (i64.wrap (i+j))) 1)=(i+j) / 2:=by
 have E:i64.wrap (i+j)=i+j:=aw g5 g5;have e:u64.wrap (i+j)=i+j:=by
  grind [IntKind.wrap,IntKind.bits]
 have V:ol .u64 (i+j) 1=(i+j) / 2:=by
  show Int.fdiv (i+j) ((2:Int) ^ min (Int.toNat 1) u64.bits)=_;have:(2:Int) ^ min (Int.toNat 1) u64.bits=2:=by decide
  grind
 grind [aw]
theorem Sn {f:Int->Bool}{N:Int}{step:Nat->Int×Int->Int⊕(Int×Int)}(hN:N<=2305843009213693952)
  (hs:∀ k i j,0<=i->i<j->j<=N->step k (i,j)=if f ((i+j) / 2)=true then .inr (i,(i+j) / 2)else .inr ((i+j) / 2+1,j)) (he:∀ k i j,¬i<j->step k (i,j)=.inl i):
  ∀ (E k:Nat) (i j:Int),0<=i->i<=j->j<=N->j - i<2 ^ E->∃ v,aj step (E+1) k (i,j)=.inl v/\i<=v/\v<=j/\
   ((∀ a b,0<=a->a<=b->b<N->f a=true->f b=true)->(∀ u,i<=u->u<v->f u=false)/\(v<j->f v=true)):=by
 intro E;induction E with
 |zero=>
  intro k i j V h1 h2 h3;have:j=i:=g5
  subst this;exact⟨j,by grind [aj],ao7 _,ao7 _,λ_=>⟨λu h4 h5=>g5,λh=>g5⟩⟩
 |succ E ih=>
  intro k i j V h1 h2 h3;by_cases hlt:i<j
  have hp:(2:Int) ^ (E+1)=2 ^ E+2 ^ E:=g5
  rw[show E+1+1=(E+1)+1 from rfl];simp only[aj,hs k i j V hlt h2];by_cases hf:f ((i+j) / 2)=true
  rw[if_pos hf];obtain⟨v,O,e2,Y,X⟩:=ih (k+1) i ((i+j) / 2) V g5 g5 g5;refine⟨v,O,e2,g5,λW=>⟨(X W).1,λ_=>?_⟩⟩;grind
  rw[if_neg hf];obtain⟨v,O,e2,Y,X⟩:=ih (k+1) ((i+j) / 2+1) j g5 g5 h2 g5;refine⟨v,O,g5,Y,λW=>⟨λu h4 h5=>?_,(X W).2⟩⟩;grind
  have:j=i:=g5
  subst this;exact⟨j,by grind [aj],ao7 _,ao7 _,λ_=>⟨λu h4 h5=>g5,λh=>g5⟩⟩
theorem KZ (w:Int)(x:Reach):∃ v,aj (lz x w) 64 0 (0,1073741825)=.inl v/\0<=v/\v<=1073741825/\
  ((∀ a b,0<=a->a<=b->b<1073741825->gh a x w=true->gh b x w=true)->(∀ u,0<=u->u<v->gh u x w=false)/\(v<1073741825->gh v x w=true)):=by
 refine Sn (f:=λv=>gh v x w) (N:=1073741825) g5 (λk i j E h1 h2=>?_) (λk i j h=>?_) 63 0 0 1073741825 g5 g5 g5 (by decide);unfold lz;simp only;rw[akN E g5 g5,decide_eq_true h1,aw g5 g5];grind
 grind [lz]
theorem Y5 (w:Int)(x:Reach):r7 1073741825 x w:=λz E=>by
 obtain⟨v,h,_⟩:=KZ w x;grind
def M6 (x:Reach)(w:Int):mr x w:=λ_=>Y5 _ x
def Y6 (x:Reach)(w:Int):oc x w:=λ_=>M6 x w
section
variable {i:Int}{x:Reach}
theorem Y7 (h:cH i x=true){w:Int}(hw:1<=w)(O:w<=1073741824):0<=gz (w - 1) x/\gz (w - 1) x<=1073741825/\(∀ u,0<=u->u<gz (w - 1) x->wst x u<w)/\(gz (w - 1) x<=1073741824->w<=wst x (gz (w - 1) x)):=by
 obtain⟨v,e1,e2,e3,W⟩:=KZ (w - 1) x;have ev:gz (w - 1) x=v:=by grind [gz,vE]
 have Y:∀ u,0<=u->u<=1073741824->(gh u x (w - 1)=true↔w<=wst x u):=λu V X=>by
  have:=FK h V X;unfold gh rZ wst;rw[aw g5 g5,decide_eq_true_eq];omega
 obtain⟨e5,e6⟩:=W λa b a0 E hb ha=>(Y b g5 g5).2 (by
  have:=Cs h a0 E g5;grind)
 grind
theorem K1 (h0:0<=i)(h:cH i x=true){w:Int}(hw:1<=w):(∃ v,bf x w=(v,true)/\1<=v/\v<=1073741824/\x.arR<=v/\w<=wst x v/\∀ u,0<=u->u<=1073741824->x.arR<=u->w<=wst x u->v<=u)\/
  ((bf x w).2=false/\∀ u,0<=u->u<=1073741824->wst x u<w):=by
 have hr:=KY h0 h;unfold bf;have hw0:(w==0)=false:=g6
 by_cases E:w<=1073741824
 have hc:(w==0||decide (w > 1073741824))=false:=g6
 rw[hc,hw0];simp only[cond_false];obtain⟨l1,l2,l3,Y⟩:=Y7 h hw E;unfold gC;have hv:(iE x w !=0)=false:=by grind [FK]
 rw[hv,aw g5 g5];simp only[cond_false];by_cases V:gz (w - 1) x<=1073741824
 rw[decide_eq_false g5];simp only[cond_false,aoH];have X:=Y V;have l6:=Sm h l1 V;refine .inl ⟨_,rfl,?_,?_,?_,?_,λu O W u2 u3=>?_⟩;omega;have:=hr.arR;have:=hr.cap;omega;omega;have:=hr.arR;have:=hr.cap;split
 exact aq4 X (Cs h l1 g5 g5);exact X;grind
 grind
 have hc:(w==0||decide (w > 1073741824))=true:=g6
 rw[hc];refine .inr ⟨g6,λu O W=>?_⟩;have:=Sm h O W;omega
end
end Go.Sx
end
section
namespace Go.Proofs
open Go.Shelf Go.Sx
def Tryz.atK:Go.Shelf.Ren:=⟨λ|6=>171|15=>133|14=>246|28=>199|29=>200|20=>290|21=>291|22=>292|23=>293|24=>294|25=>295|26=>296|27=>297|46=>328|47=>260|48=>261|49=>329|50=>330|57=>343|n=>n,λ|22=>50|24=>259|25=>270|3=>3|39=>229|0=>0|53=>294|55=>296|4=>4|46=>288|45=>287|50=>267|5=>5|9=>9|66=>342|70=>60|76=>375|77=>376|n=>n,λ|n=>n⟩
theorem Tryz.atZ:Go.Proofs.SlLaysF0.n6 Tryz.prog Tryz.atK:=⟨kr,⟨Tryz.f171.name,by decide,kr⟩,⟨Tryz.f246.name,by decide,kr⟩,kr,⟨Tryz.f290.name,by decide,kr⟩,⟨Tryz.f291.name,by decide,kr⟩,⟨Tryz.f292.name,by decide,kr⟩,⟨Tryz.f293.name,by decide,kr⟩,⟨Tryz.f294.name,by decide,kr⟩,⟨Tryz.f295.name,by decide,kr⟩,⟨Tryz.f296.name,by decide,kr⟩,⟨Tryz.f297.name,by decide,kr⟩,kr,kr,⟨Tryz.f328.name,by decide,kr⟩,kr,kr,⟨Tryz.f329.name,by decide,kr⟩,⟨Tryz.f330.name,by decide,kr⟩,⟨Tryz.f343.name,by decide,kr⟩,kr,λ_=>kr,λ_=>kr,λ_=>kr,kr,λ_=>kr,λ_=>kr,λ_=>kr,kr,λ_=>kr,λ_=>kr,λ_=>kr,kr,λ_=>kr,λ_=>kr,λ_=>kr,kr,λ_=>kr,λ_=>kr,λ_=>kr,kr,λ_=>kr,λ_=>kr,λ_=>kr,kr,λ_=>kr,λ_=>kr,λ_=>kr,kr,λ_=>kr,λ_=>kr,λ_=>kr,kr,λ_=>kr,λ_=>kr,λ_=>kr,kr,λ_=>kr,λ_=>kr,λ_=>kr,kr,λ_=>kr,λ_=>kr,λ_=>kr,kr,λ_=>kr,λ_=>kr,λ_=>kr,kr,λ_=>kr,λ_=>kr,λ_=>kr,kr,λ_=>kr,λ_=>kr,λ_=>kr,kr,λ_=>kr,λ_=>kr,λ_=>kr,kr,λ_=>kr,λ_=>kr,λ_=>kr,kr,λ_=>kr,λ_=>kr,λ_=>kr⟩
end Go.Proofs
end
section
namespace Go.Sx
open Go.Proofs Tryz
@[go_sem] def uU (a:List Int)(b:Nat)(c:Unit):Int⊕Unit:=(bif((a.getD b 0) !=0)then .inl (a.getD b 0)else .inr ())
def fK (a:List Int):Int:=(match aj (uU a) a.length 0 ()with| .inl b=>b| .inr c=>0)
@[go_sem] def Ct:m0:=(pR .int λa=>(pE (.det True (.i (fK a)))))
def uV:X1 prog 173 Ct:=by
 have hG:=mG Y1 Y1;refine fN hG f173 [.o] (bG λO=>(am (λY=>?_)));dsimp only[an]at Y;refine⟨nbl rfl,(λid st=>bif Nat.beq id 0 then some (LCR (ρ:=Int) (σ:=Unit) 0 [] [] (λV W=>⟨[(5,.rs .int O),(6,.i (O.length:Int)),(7,.i V)],[]⟩) (uU O) pT O.length () (O.length<=aI) (λ_=>.ret) (λE=>⟨[(2,.i E)],[]⟩) st)else none),?_,?_⟩;unfold ae f173;simp only[ak,true_and,and_true];refine bu mixed aB hG kr (λ_=>rfl) (O.length:Int) rfl fO (λhb0 V W X _ hw hc=>⟨L0,ag _,?_⟩) (λhb0 W hc=>?_);exact bC (jl []);exact bD (jl []);unfold ae f173;try unfold fK
 exact zq2
def ar (a b:Order):Int:=(fK ([(bv a.hour b.hour),(bv a.index b.index)]))
@[go_sem] def qW:m0:=(pD .order λa=>(pD .order λb=>(pE (.det True (.i (ar a b))))))
def xA:X1 prog 243 qW:=by
 have hG:=mG (cp fA (cn [.sl .int] uV Y1)) Y1;refine fN hG f243 [.o] (ax λa=>(ax λb=>(am (λE=>?_))));dsimp only[an]at E;refine⟨nbl rfl,L0,ag _,?_⟩;unfold ae f243;try unfold ar
 exact zq2
def qF (x:Order):Bool:=(decide (x.bl > 1073741824))
@[go_sem] def Ad:m0:=(pD .order λx=>(pE (.det True (.v (.bool (qF x))))))
def za:X1 prog 166 Ad:=by
 have hG:=mG Y1 Y1;refine fN hG f166 [.o] (ax λx=>(am (λE=>?_)));dsimp only[an]at E;refine⟨nbl rfl,L0,ag _,?_⟩;unfold ae f166;try unfold qF
 exact zq2
def Qb (x:Int)(l:List Int):fK (x::l)=if x=0 then fK l else x:=by
 have key:∀ l:List Int,fK l=match cG (ρ:=Int) (λ(x:Int) (_:Unit) =>bif(x !=0)then .inl x else .inr ()) l ()with| .inl y=>y| .inr _=>0:=λl=>by
  unfold fK;have:=tD (ρ:=Int) (λ(x:Int) (_:Unit) =>bif(x !=0)then .inl x else .inr ()) 0 l ();rw[<-this];rfl
 rw[key,key];simp only[cG];grind
def So:fK []=0:=rfl
def M7:List (Int×Int)->Prop
 | [] =>False|(a,b)::r=>a<b\/a=b/\M7 r
def Ij:∀ l:List (Int×Int),(fK (l.map λp=>bv p.1 p.2) <0↔M7 l)
 | [] =>by simp[So,M7]
 |(a,b)::r=>by
  have hc:=kD a b;simp only[aoO,Qb,hc,M7];rcases aqQ a b with h|h|h;simp[h];subst h;simp only[arj,if_false,if_true,true_and,false_or,gt_iff_lt];exact Ij r;omega
def Vy (a b:Order):Prop:=M7 [(a.hour,b.hour),(a.index,b.index)]
def xB (a b:Order):ar a b<0↔Vy a b:=Ij [(a.hour,b.hour),(a.index,b.index)]
open Go.Shelf Go.Sort in
def lG:SWO (ltOf ar):=Mz xB (λx=>by simp_all [Vy,M7]) (λx y z h1 h2=>by simp only[Vy,M7,and_false,or_false]at *;omega) (λx y z h1 h2=>by simp only[Vy,M7,and_false,or_false]at *;omega)
end Go.Sx
end
section
namespace Go.Sx
open Go.Lib Go.Proofs Go.RowKit Go.Shelf Go.Sort Tryz
noncomputable def uW:List SV->List Ob->Option arV:=λl h=>orC (jR .order 298 [.ep [ox] 0] aA l h) (jR .order 243 [] ar l h)
variable {l0:List Order}
@[go_sem]def aaj:uW [.os 0,.fn 298 [] [.ep [ox] 0]] [.row .order l0]=some (fM (apart aA l0) (.tup []) [.row .order (srt aA l0)]):=by
 unfold uW;rw[oF];rfl
@[go_sem]def Y8:uW [.os 0,.fn 243 [] []] [.row .order l0]=some (fM (apart ar l0) (.tup []) [.row .order (srt ar l0)]):=by
 unfold uW;rw[oF];have:jR .order 298 [.ep [ox] 0] aA [.os 0,.fn 243 [] []] [.row .order l0]=none:=by simp[jR,OW]
 rw[this];rfl
theorem Ey:yQ .order:=λx s E=>by
 simp only[cellsOf,aoD,apn,or_false]at E;rcases E with rfl|rfl|rfl|rfl;all_goals exact⟨_,rfl,rfl⟩
theorem Y9 (x y:Order):nM (.agg (cellsOf .order x):: .agg (cellsOf .order y)::[.ep [ox] 0])=some (.det True (.i (aA x y))):=by
 simp only[go_sem,Nat.reduceBEq]
theorem Ez (x y:Order):qW (.agg (cellsOf .order x):: .agg (cellsOf .order y)::[])=some (.det True (.i (ar x y))):=by
 rfl
theorem EA:arT prog 171 uW:=by
 refine arT.or ?_ ?_;refine su (k:=.order) Tryz.atZ (λw=>by kernel_rfl) (λw=>by kernel_rfl) Ey (by decide) (g:=298) (caps:=[.ep [ox] 0]) xY (cf:=aA) Y9 xz (λs E=>?_) ⟨default,default,Y9 _ _⟩;simp only[aoD,apn,or_false]at E;subst E;exact iH 5 _ rfl;exact su (k:=.order) Tryz.atZ (λw=>by kernel_rfl) (λw=>by kernel_rfl) Ey (by decide) (g:=243) (caps:=[]) xA (cf:=ar) Ez lG (λs E=>by cases E) ⟨default,default,Ez _ _⟩
end Go.Sx
end
section
namespace Go.Sx
open Go.Proofs Tryz
open IntKind (i64)
@[go_sem] def b_ (d:ah)(e:List Order)(f:Nat)(b:List ((Int×Int)×Int)):Unit⊕(List ((Int×Int)×Int)):=letI a:=e.getD f default;letI c:=((d.zs.getD (Int.toNat (a.index)) default).reach,a.hour);(bif(!a.S2)then .inl ()else .inr (dF .arQ .int b c (i64.wrap ((aC .arQ .int b c)+a.bl))))
def kH (c:ah)(a:List Order)(b:Nat)(d:List ((Int×Int)×Int)):Prop:=((!(a.getD b default).S2)=false->(0<=(a.getD b default).index/\(a.getD b default).index< (c.zs.length:Int)))
@[go_sem] def aR (g:ah)(b:Int×Int)(a:List Order×List ((Int×Int)×Int)):(List ((Int×Int)×Int))⊕(List Order×List ((Int×Int)×Int)):=letI c:=g.reaches.getD (Int.toNat b.1) default;letI d:=i64.wrap (b.2 - c.delay);letI f:=aC .arQ .int a.2 (b.1,b.2);letI e:=bf c f;(bif(f==0)then .inr (a.1,a.2)else(bif((!e.2) ||(decide (b.2<c.delay)))then .inl a.2 else .inr ((a.1++([({ hour:=d,index:=b.1,bl:=e.1,S2:=false}:Order)])),(dF .arQ .int a.2 (c.up,d) (i64.wrap ((aC .arQ .int a.2 (c.up,d))+e.1))))))
def i_ (d:ah)(a:Int×Int)(e:List Order×List ((Int×Int)×Int)):Prop:=letI b:=d.reaches.getD (Int.toNat a.1) default;letI c:=aC .arQ .int e.2 (a.1,a.2);letI f:=bf b c;((c==0)=false->((0<=a.1/\a.1< (d.reaches.length:Int))/\((oc b c)/\(((!f.2) ||(decide (a.2<b.delay)))=false->((e.1++([({ hour:=(i64.wrap (a.2 - b.delay)),index:=a.1,bl:=f.1,S2:=false}:Order)])).length*32<=dT)))))
def aX (a:ah)(b:List Order):List Order×Bool×Int:=letI c:=eF a b;(bif(c !=0)then([],false,c)else(match aj (b_ a b) b.length 0 ([])with| .inl f=>([],false,220) | .inr e=>(match cG (aR a) (dx a) (b,e)with| .inl g=>([],false,0) | .inr d=>(bif(decide ((d.1.length:Int) > 4096))then([],false,2)else((srt aA d.1),true,0)))))
def qG (b:ah)(a:List Order):Prop:=letI c:=b_ b a;letI d:=aR b;letI e:=dx b;((od b a)/\(((eF b a) !=0)=false->(a.length<=aI->(okI c (kH b a) a.length 0 ([])/\(∀ l5,aj c a.length 0 ([])=.inr l5->((a.length*32<=dT)/\((b.hours<9223372036854775808)/\okL d (i_ b) e (a,l5)/\(∀ s_1,cG d e (a,l5)=.inr s_1->(s_1.1.length<=aI->((decide ((s_1.1.length:Int) > 4096))=false->(apart aA s_1.1)))))))))))
@[go_sem] def Ik:m0:=(pD .al λa=>(pR .order λb=>(pE (.det (qG a b) (.tup [.rs .order ((aX a b).1),.v (.bool ((aX a b).2.1)),.i ((aX a b).2.2)])))))
variable {p:Prop}
def akO(h:p:=by simp only[go_sem,e1_0,e1_1,e1_2,e1_3,e1_4,e1_5]):p:=h
variable {l0 l1:List Nat}
def akP(a0:JL l0)(a1:JL l1)(h:JL l0->JL l1->p:=by intro ja jb;simp only[go_sem,nZ,gT,aR,psT,GZ,aoJ,aos];all_goals exact fU ja jb):p:=h a0 a1
def adr(a0:JL l0)(a1:JL l1)(h:JL l0->JL l1->p:=by intro ja jb;simp only[go_sem,nZ,gT];all_goals exact fU ja jb):p:=h a0 a1
theorem akQ(h:p:=by simp only[go_sem,nZ,gT];all_goals exact cl3):p:=h
theorem Fl:X1 prog 109 Ik:=by
 have hG:=mG (cn [.st .al,.sl .order] Cp (cn [.sl .order] ET (cn [.st .al] BW (cp Co (cp uQ Y1))))) (co EA Y1);refine fN hG f109 [.sl .order,.o,.o] (ax λa0=>(bG λa1=>(am (λY=>?_))));dsimp only[an]at Y;unfold qG at Y;refine⟨nbl rfl,(λid st=>bif Nat.beq id 0 then some (LCR (ρ:=Unit) (σ:=(List ((Int×Int)×Int))) 6 [] [0,1,2,3,4,5] (λX V=>⟨[(1,.rs .order a1),(2,.ptr 0 0),(4,.ptr 1 0),(5,.ptr 2 0),(6,.ptr 3 0),(7,.ptr 5 0),(23,.rs .order a1),(24,.i (a1.length:Int)),(25,.i X)],[.cells (cellsOf .al a0),.cells [.v (.slice none 0 0)],.cells [.v (.bool false)],.cells [.i (eF a0 a1)],.mp .arQ .int V none,.cells [.os 4]]⟩) (b_ a0 a1) (kH a0 a1) a1.length ([]) (a1.length<=aI) (λ_=>.ret) (λu0=>⟨[(4,.ptr 1 0),(5,.ptr 2 0),(6,.ptr 3 0)],[.dead,.cells [.v (.slice none 0 0)],.cells [.v (.bool false)],.cells [.i 220],.dead,.dead]⟩) st)else bif Nat.beq id 2 then some (LC (ρ:=List ((Int×Int)×Int)) (σ:=List Order×List ((Int×Int)×Int)) (lk 2 st.t=.ptr 0 0/\lk 4 st.t=.ptr 1 0/\lk 5 st.t=.ptr 2 0/\lk 6 st.t=.ptr 3 0/\lk 7 st.t=.ptr 5 0/\lk 53 st.t=.fn 245 [] [.ep (cellsOf .al a0) 0]/\st.h=[.cells (cellsOf .al a0),.cells [.os 6],.cells [.v (.bool false)],.cells [.i (eF a0 a1)],.mp .arQ .int (bp (aj (b_ a0 a1) a1.length 0 ([]))) none,.cells [.os 4],.row .order a1]/\a0.hours<9223372036854775808/\okL (aR a0) (i_ a0) (dx a0) (a1,(bp (aj (b_ a0 a1) a1.length 0 ([]))))) (cG (aR a0) (dx a0) (a1,(bp (aj (b_ a0 a1) a1.length 0 ([]))))) (λ_=>.ret) (λE=>⟨[(2,.ptr 0 0),(4,.ptr 1 0),(5,.ptr 2 0),(6,.ptr 3 0),(7,.ptr 5 0)],[.cells (cellsOf .al a0),.cells [.v (.slice none 0 0)],.cells [.v (.bool false)],.cells [.i 0],.mp .arQ .int E none,.cells [.os 4],.dead,.dead]⟩) (λO=>⟨[(2,.ptr 0 0),(4,.ptr 1 0),(5,.ptr 2 0),(6,.ptr 3 0),(7,.ptr 5 0)],[.cells (cellsOf .al a0),.cells [.os 7],.cells [.v (.bool false)],.cells [.i (eF a0 a1)],.mp .arQ .int O.2 none,.cells [.os 4],.dead,.row .order O.1]⟩))else none),?_,?_⟩
 ·unfold ae f109;simp only[ak,true_and,and_true];refine⟨?_,?_⟩;refine bu mixed aB hG kr (λ_=>rfl) (a1.length:Int) rfl fO (λhb0 X V asO hq0 hw hc=>⟨L0,ag _,?_⟩) (λhb0 V hc=>?_);unfold kH at hq0;try simp only[hw,aol]at hq0
  exact bC (jl [0,1,2,3,4,5]);exact bD (jl [0,1,2,3,4,5])
  ·refine pw mixed aB hG (by decide) (by decide) kr kr λst lc hC Y=>?_;simp only[go_sem,Nat.reduceBEq,aoo]at hC;subst hC;obtain⟨t,h⟩:=st;dsimp only[LC]at Y;obtain⟨e1_0,e1_1,e1_2,e1_3,e1_4,e1_5,rfl,hb1,W⟩:=Y;refine⟨245,[.ep (cellsOf .al a0) 0],Int×Int,_,_,(dx a0),GZ,(aR a0),(i_ a0),_,(a1,(bp (aj (b_ a0 a1) a1.length 0 ([])))),_,_,_,[(2,.ptr 0 0),(4,.ptr 1 0),(5,.ptr 2 0),(6,.ptr 3 0),(7,.ptr 5 0)],(λO=>[.cells (cellsOf .al a0),.cells [.os 7],.cells [.v (.bool false)],.cells [.i (eF a0 a1)],.mp .arQ .int O.2 none,.cells [.os 4],.dead,.row .order O.1]),(λE=>[.cells (cellsOf .al a0),.cells [.v (.slice none 0 0)],.cells [.v (.bool false)],.cells [.i 0],.mp .arQ .int E none,.cells [.os 4],.dead,.dead]),[0,1,2,3,4,5,6,6],?_,rfl,W,nbl rfl,?_,U6 a0 hb1,λz_1 O hq1=>⟨rfl,L0,λl=>?_,λl=>?_,?_⟩,λO=>?_,λy=>?_⟩;exact akO
   ·simp only[go_sem,sp,kg,aoF,apf,aos,aoC,aoZ,e1_0,e1_1,e1_2,e1_3,e1_4,e1_5];all_goals (first|done|decide|(repeat' (first|refine And.intro ?_ ?_|rfl|decide)))
   simp only[ak,and_self,true_and,and_true];simp only[ak,and_self,true_and,and_true];unfold i_ at hq1;exact akP (jl [0,1,2,3,4,5,6,7]) (jl [0,1,2,3,4,5,6,10]);exact adr (jl [0,1,2,3,4,5,6,7]) (jl [0,1,2,3,4,5,6,10]);exact adr (jl [0,1,2,3,4,5,6,7]) (jl [0,1,2,3,4,5,6,10])
 unfold ae f109;try unfold aX
 exact akQ
def jv (d:ah)(a b:Int)(x:Order):Bool:=(x.hour==b)&&((x.S2&&(d.zs.getD x.index.toNat default).reach==a) ||(!x.S2&&(d.reaches.getD x.index.toNat default).up==a))
abbrev rch (d:ah)(r:Int):Reach:=d.reaches.getD r.toNat default
def drw (d:ah)(l:List Order)(r h:Int):Int:=b7 (jv d r h) l
theorem Il {ρ σ τ:Type}{step:τ->σ->ρ⊕σ}(J:List τ->σ->Prop)(E:∀ x L s,J (x::L) s->∀ s',step x s=.inr s'->J L s'):∀ (L:List τ) (s:σ),J L s->(∀ s',cG step L s=.inr s'->J [] s')/\∀ y,cG step L s=.inl y->∃ x V s',J (x::V) s'/\step x s'=.inl y
 | [],s,h=>⟨λs' e=>by grind [cG],λy e=>by simp[cG]at e⟩
 |x::L,s,h=>by
  cases O:step x s with
  |inl y=>
   grind [cG]
  |inr s1=>
   obtain⟨h1,h2⟩:=Il J E L s1 (E x L s h s1 O);grind [cG]
def M8 {ρ σ τ:Type}{step:τ->σ->ρ⊕σ}{p:τ->σ->Prop}(J:List τ->σ->Prop)(E:∀ x L s,J (x::L) s->p x s/\∀ s',step x s=.inr s'->J L s'):∀ (L:List τ) (s:σ),J L s->okL step p L s
 | [],_,_=>trivial
 |x::L,s,h=>⟨(E x L s h).1,λs' e=>M8 J E L s' ((E x L s h).2 s' e)⟩
def PR (r h:Nat)(a b:Int):Prop:=(r:Int) <a\/a=r/\b< (h:Int)
abbrev Mp:=List ((Int×Int)×Int)
structure PG (d:ah)(l:List Order)(x:Order):Prop where
 out:x.S2=false
 i0:0<=x.index
 i1:x.index< (d.reaches.length:Int)
 h0:0<=x.hour
 h1:x.hour+(rch d x.index).delay<d.hours
 w:1<=drw d l x.index (x.hour+(rch d x.index).delay)
 v:bf (rch d x.index) (drw d l x.index (x.hour+(rch d x.index).delay))=(x.bl,true)
structure PI (d:ah)(out gs:List Order)(m:Mp)(r h:Nat):Prop where
 atq:∀ a b,aC .arQ .int m (a,b)=drw d (out++gs) a b
 gate:∀ x∈gs,PG d (out++gs) x/\PR r h x.index (x.hour+(rch d x.index).delay)
 all:∀ a b,0<=a->a< (d.reaches.length:Int)->0<=b->b<d.hours->PR r h a b->drw d (out++gs) a b≠0->∃ x∈gs,x.index=a/\x.hour+(rch d a).delay=b
 uniq:gs.Pairwise λx y=>¬ (x.index=y.index/\x.hour=y.hour)
 len:gs.length<=(d.reaches.length - 1 - r)*d.hours.toNat+h
def vF (d:ah)(a b:List Order)(r h:Int):drw d (a++b) r h=drw d a r h+drw d b r h:=Cr _ _ _
theorem FL (d:ah)(x:Order)(r h:Int):drw d [x] r h=bif jv d r h x then x.bl else 0:=by unfold drw;simp[b7]
variable {d:ah}{l:List Order}
theorem Cu(hr:arW d){x:Order}(h:PG d l x):1<=x.bl/\x.bl<=1073741824/\(rch d x.index).arR<=x.bl/\drw d l x.index (x.hour+(rch d x.index).delay)<=wst (rch d x.index) x.bl/\∀ u,0<=u->u<=1073741824->(rch d x.index).arR<=u->drw d l x.index (x.hour+(rch d x.index).delay)<=wst (rch d x.index) u->x.bl<=u:=by
 have E:x.index.toNat<d.reaches.length:=by have:=h.i0;have:=h.i1;omega
 rcases K1 (i:=(x.index.toNat:Int)) g5 (hr.reach _ E) h.w with⟨v,e,X,Y,O,W,V⟩ | ⟨e,_⟩;have:=h.v;grind
 rw[h.v]at e;cases e
variable {E:List Order}{m:Mp}{r h:Nat}
theorem PI.lit{out:List Order}(hr:arW d)(O:arS d out)(p:PI d out E m r h):∀ x∈out++E,1<=x.bl/\x.bl<=1073741824:=λx hx=>by
 rcases aoQ.1 hx with hx|hx;exact O.lit x hx;have:=Cu hr (p.gate x hx).1;omega
def wJ(h:∀ x∈l,1<=x.bl/\x.bl<=1073741824)(a b:Int):0<=drw d l a b/\drw d l a b<=l.length*1073741824:=A8 h
theorem PI.aue{out:List Order}(hr:arW d)(O:arS d out)(p:PI d out E m r h)(V:h<=d.hours.toNat):(out++E).length<=266240+4096:=by
 have h1:=p.len;have h2:(d.reaches.length - 1 - r)*d.hours.toNat<=64*4096:=aqz (by have:=hr.reaches;omega) (by have:=hr.hours;omega);have:=O.len;have:=hr.hours;grind
theorem PI.row{out O:List Order}(p:PI d out O m (r+1) d.hours.toNat)(W:r+1<d.reaches.length)(hh:1<=d.hours):PI d out O m r 0:=by
 refine⟨p.atq,λx E=>⟨(p.gate x E).1,?_⟩,λa b a0 a1 V X Y=>p.all a b a0 a1 V X ?_,p.uniq,?_⟩;have:=(p.gate x E).2;grind [PR]
 grind [PR]
 have:=p.len;rw[show d.reaches.length - 1 - r=(d.reaches.length - 1 - (r+1))+1 by omega,aqf];omega
theorem PI.skip{out:List Order}(p:PI d out E m r h)(h0:drw d (out++E) r h=0):PI d out E m r (h+1):=by
 refine⟨p.atq,λx V=>⟨(p.gate x V).1,?_⟩,λa b a0 a1 X Y hp O=>?_,p.uniq,?_⟩;have:=(p.gate x V).2;grind [PR]
 by_cases W:PR r h a b
 exact p.all a b a0 a1 X Y W O;grind [PR]
 have:=p.len;omega
def Y_(a:arW d)(h:r<d.reaches.length):(rch d r).up<r:=(a.asY h).up
def wK(a:arW d)(h:r<d.reaches.length):1<=(rch d r).delay/\(rch d r).delay<=16:=⟨(a.asY h).atf,(a.asY h).delay⟩
theorem PI.add{out V:List Order}(hr:arW d)(ho:arS d out)(p:PI d out V m r h)(Y:r<d.reaches.length)(hhl:h<d.hours.toNat)(h1:1<=drw d (out++V) r h){v:Int}(hv:bf (rch d r) (drw d (out++V) r h)=(v,true))(hd:(rch d r).delay<=h)(v0:1<=v)(v1:v<=1073741824):
  PI d out (V++[{ hour:=(h:Int) - (rch d r).delay,index:=r,bl:=v,S2:=false}]) (dF .arQ .int m ((rch d r).up,(h:Int) - (rch d r).delay) (i64.wrap (aC .arQ .int m ((rch d r).up,(h:Int) - (rch d r).delay)+v))) r (h+1):=by
 generalize hx:({ hour:=(h:Int) - (rch d r).delay,index:=(r:Int),bl:=v,S2:=false}:Order)=x;have xo:x.S2=false:=by rw[<-hx]
 have xi:x.index=r:=by rw[<-hx]
 have xh:x.hour=(h:Int) - (rch d r).delay:=by rw[<-hx]
 have xl:x.bl=v:=by rw[<-hx]
 have hup:=Y_ hr Y;have hdl:=wK hr Y;have W:∀ a b,drw d (out++(V++[x])) a b=drw d (out++V) a b+(if a=(rch d r).up/\b=(h:Int) - (rch d r).delay then v else 0):=λa b=>by
  rw[<-ao_,vF,FL];congr 1
  unfold jv;grind
 have E:∀ a b,(r:Int)<=a->drw d (out++(V++[x])) a b=drw d (out++V) a b:=λa b ha=>by
  grind
 have hb:=wJ (d:=d) (p.lit hr ho);have hlen:=p.aue hr ho g5;refine⟨λa b=>?_,λy hy=>?_,λa b a0 a1 b0 b1 hp X=>?_,?_,?_⟩;rw[lE (k:=.arQ),W,p.atq,p.atq];have:=hb (rch d r).up ((h:Int) - (rch d r).delay);by_cases e:a=(rch d r).up/\b=(h:Int) - (rch d r).delay
 rw[if_pos e,if_pos (by rw[e.1,e.2]),e.1,e.2,aw g5 g5];grind
 rcases aoQ.1 hy with hy|hy;obtain⟨g,gp⟩:=p.gate y hy;have O:(r:Int)<=y.index:=by grind [PR]
 refine⟨⟨g.out,g.i0,g.i1,g.h0,g.h1,by rw[E _ _ O];exact g.w,by rw[E _ _ O];exact g.v⟩,?_⟩;grind [PR]
 rw[ao6]at hy;subst hy;have eh:y.hour+(rch d y.index).delay=h:=g6
 refine⟨⟨xo,g5,g5,g5,g5,?_,?_⟩,?_⟩;grind
 grind
 grind [PR]
 have O:(r:Int)<=a:=by grind [PR]
 rw[E _ _ O]at X;by_cases hq:PR r h a b
 obtain⟨y,hy,e⟩:=p.all a b a0 a1 b0 b1 hq X;grind
 grind [PR]
 rw[aoG];refine⟨p.uniq,ao1 _ _,λy hy z hz=>?_⟩;rw[ao6]at hz;subst hz;rintro⟨e1,e2⟩;have:=(p.gate y hy).2;grind [PR]
 have:=p.len;grind
theorem DR{out:List Order}(hr:arW d)(ho:arS d out):
  (∀ m,aj (b_ d out) out.length 0 []=.inr m->(∀ x∈out,x.S2=true)/\∀ a b,aC .arQ .int m (a,b)=drw d out a b)/\okI (b_ d out) (kH d out) out.length 0 []/\((∀ x∈out,x.S2=true)->∃ m,aj (b_ d out) out.length 0 []=.inr m):=by
 let J:Nat->Mp->Prop:=λk m=>k<=out.length->(∀ x∈out.take k,x.S2=true)/\∀ a b,aC .arQ .int m (a,b)=drw d (out.take k) a b
 have V:J 0 []:=λ_=>⟨by simp,λa b=>by rfl⟩;have hstep:∀ j s,0<=j->j<0+out.length->J j s->kH d out j s/\∀ s',b_ d out j s=.inr s'->J (j+1) s':=λj s _ X hJ=>by
  have X:j<out.length:=g5
  obtain⟨h1,h2⟩:=hJ g5;have O:=ho.one j X;refine⟨λhe=>?_,λs' Y _=>?_⟩;have:(out.getD j default).S2=true:=g6
  have:=O.dd this;have:=O.asP;omega;unfold b_ at Y;cases E:(out.getD j default).S2 with
  |false=>grind
  |true=>
   rw[E]at Y;simp only[aoH,cond_false,aoK]at Y;have hel:=ik out default X;rw[aoX X];refine⟨λx O=>?_,λa b=>?_⟩;grind
   subst Y;rw[vF,FL,lE (k:=.arQ),h2,h2,<-hel];have hb:=wJ (d:=d) (l:=out.take j) (λx O=>ho.lit x (apm O)) (d.zs.getD (out.getD j default).index.toNat default).reach (out.getD j default).hour;have hl:(out.take j).length<=4096:=by have:=ho.len;grind
   have hl1:=O.asS;have hl2:=O.bl;rw[aw g5 g5];unfold jv;grind
 refine⟨λm hm=>?_,ij J _ _ _ V hstep,λW=>?_⟩;have:=il J _ _ _ V (λj s h1 h2 h3=>(hstep j s h1 h2 h3).2) m hm g5;grind
 cases hrun:aj (b_ d out) out.length 0 []with
 |inr m=>grind
 |inl y=>
  exfalso;have key:∀ n i s,i+n<=out.length->∀ y,aj (b_ d out) n i s≠ .inl y:=by
   intro n;induction n with
   |zero=>grind [aj]
   |succ n ih=>
    intro i s hi y h;simp only[aj]at h;have E:(out.getD i default).S2=true:=W _ (DQ _ _ g5);unfold b_ at h;rw[E]at h;simp only[aoH,cond_false]at h;exact ih (i+1) _ g5 y h
  grind
def PJ (d:ah)(a:List Order)(L:List (Int×Int))(s:List Order×Mp):Prop:= ∃ gs r h,r<d.reaches.length/\h<=d.hours.toNat/\s.1=a++gs/\L=ES r d.hours.toNat h++zU d.hours.toNat r/\PI d a gs s.2 r h
theorem M9{out:List Order}(hr:arW d){x:Int×Int}{L:List (Int×Int)}{s:List Order×Mp}(h:PJ d out (x::L) s):∃ (O:List Order) (r h:Nat),r<d.reaches.length/\h<d.hours.toNat/\s.1=out++O/\x=((r:Int),(h:Int))/\L=ES r d.hours.toNat (h+1)++zU d.hours.toNat r/\PI d out O s.2 r h:=by
 obtain⟨O,r,h,h1,h2,W,E,X⟩:=h;have V:=hr.ar9;by_cases Y:h<d.hours.toNat
 grind [tX]
 have:h=d.hours.toNat:=g5
 subst this;rw[BX,aos]at E;cases r with
 |zero=>simp[zU]at E
 |succ r=>
  rw[yM,tX g5,aoJ]at E;cases E;exact⟨O,r,0,g5,g5,W,rfl,rfl,X.row h1 V⟩
theorem K2{out:List Order}(hr:arW d)(X:arS d out)(O:r<d.reaches.length)(Y:h<d.hours.toNat){s:List Order×Mp}(hs:s.1=out++E)(p:PI d out E s.2 r h):
  (drw d (out++E) r h=0/\aR d ((r:Int),(h:Int)) s=.inr s)\/
  (1<=drw d (out++E) r h/\((bf (rch d r) (drw d (out++E) r h)).2=false\/(h:Int) < (rch d r).delay)/\aR d ((r:Int),(h:Int)) s=.inl s.2)\/
  ∃ v,1<=drw d (out++E) r h/\bf (rch d r) (drw d (out++E) r h)=(v,true)/\(rch d r).delay<=h/\1<=v/\v<=1073741824/\
   aR d ((r:Int),(h:Int)) s=.inr (out++(E++[{ hour:=(h:Int) - (rch d r).delay,index:=r,bl:=v,S2:=false}]),dF .arQ .int s.2 ((rch d r).up,(h:Int) - (rch d r).delay) (i64.wrap (aC .arQ .int s.2 ((rch d r).up,(h:Int) - (rch d r).delay)+v))):=by
 have hb:=(wJ (d:=d) (p.lit hr X) r h).1;have hm:=p.atq r h;have V:=wK hr O;have hH:=hr.hours;by_cases h0:drw d (out++E) r h=0
 grind [aR]
 have h1:1<=drw d (out++E) r h:=g5
 have hne:(aC .arQ .int s.2 ((r:Int),(h:Int)) ==0)=false:=g6
 have hw:i64.wrap ((h:Int) - (rch d r).delay)=(h:Int) - (rch d r).delay:=aw g5 g5;by_cases hd:(h:Int) < (rch d r).delay
 refine .inr (.inl ⟨h1,.inr hd,?_⟩);unfold aR;grind
 rcases K1 (i:=(r:Int)) g5 (hr.reach r O) h1 with⟨v,e,W,e2,e3,e4,e5⟩ | ⟨e,_⟩;refine .inr (.inr ⟨v,h1,e,g5,W,e2,?_⟩);have e':bf (d.reaches.getD r default) (aC .arQ .int s.2 ((r:Int),(h:Int)))=(v,true):=g6
 unfold aR;grind
 refine .inr (.inl ⟨h1,.inl e,?_⟩);have e':(bf (d.reaches.getD r default) (aC .arQ .int s.2 ((r:Int),(h:Int)))).2=false:=g6
 unfold aR;grind
theorem TX{out:List Order}(hr:arW d)(ho:arS d out)(x:Int×Int)(L:List (Int×Int))(s:List Order×Mp)(X:PJ d out (x::L) s):∀ s',aR d x s=.inr s'->PJ d out L s':=by
 obtain⟨gs,r,h,h1,h2,h3,rfl,h5,W⟩:=M9 hr X;intro s' E;rcases K2 hr ho h1 h2 h3 W with⟨V,O⟩ | ⟨V,O,Y⟩ | ⟨v,V,O,Y,q3,q4,q5⟩;rw[O]at E;cases E;exact⟨gs,r,h+1,h1,h2,h3,h5,W.skip V⟩;grind
 rw[q5]at E;cases E;exact⟨_,r,h+1,h1,h2,rfl,h5,W.add hr ho h1 h2 V O Y q3 q4⟩
theorem Qc{out:List Order}(hr:arW d)(E:∀ a b,aC .arQ .int m (a,b)=drw d out a b):PJ d out (dx d) (out,m):=by
 have h1:=hr.one;refine⟨[],d.reaches.length - 1,0,g5,aoV _,by simp,?_,⟨g6,by simp,λa b a0 a1 V W O=>?_,List.Pairwise.nil,by simp⟩⟩;unfold dx;rw[<-yM,show d.reaches.length - 1+1=d.reaches.length by omega];grind [PR]
structure atA (d:ah)(out gs:List Order):Prop where
 gate:∀ x∈gs,PG d (out++gs) x
 all:∀ a b,0<=a->a< (d.reaches.length:Int)->0<=b->b<d.hours->drw d (out++gs) a b≠0->∃ x∈gs,x.index=a/\x.hour+(rch d a).delay=b
 uniq:gs.Pairwise λx y=>¬ (x.index=y.index/\x.hour=y.hour)
 len:gs.length<=d.reaches.length*d.hours.toNat
theorem af5{out:List Order}(hr:arW d){s:List Order×Mp}(h:PJ d out [] s):∃ E,s.1=out++E/\atA d out E:=by
 obtain⟨E,r,h,h1,h2,Y,X,O⟩:=h;have hH:=hr.ar9;have hh:h=d.hours.toNat:=by
  grind [tX]
 subst hh;rw[BX,aos]at X;have W:r=0:=by
  cases r with
  |zero=>rfl|succ r=>grind [yM,tX]
 subst W;refine⟨E,Y,⟨λx hx=>(O.gate x hx).1,λa b a0 a1 b0 b1 V=>O.all a b a0 a1 b0 b1 ?_ V,O.uniq,?_⟩⟩;unfold PR;omega;have:=O.len;have e:d.reaches.length=(d.reaches.length - 1 - 0)+1:=g5
 grind [Nat.succ_mul]
structure PX (d:ah)(out gs:List Order)(r h:Nat):Prop where
 part:∃ m,PI d out gs m r h
 r1:r<d.reaches.length
 h1:h<d.hours.toNat
 w:1<=drw d (out++gs) r h
 no:(bf (rch d r) (drw d (out++gs) r h)).2=false\/(h:Int) < (rch d r).delay
theorem Im{out:List Order}(hr:arW d)(V:arS d out)(hm:∀ a b,aC .arQ .int m (a,b)=drw d out a b):
  ((∃ s,cG (aR d) (dx d) (out,m)=.inr s/\∃ O,s.1=out++O/\atA d out O)\/∃ y,cG (aR d) (dx d) (out,m)=.inl y/\∃ O r h,PX d out O r h)/\
  okL (aR d) (i_ d) (dx d) (out,m):=by
 obtain⟨h1,h2⟩:=Il (PJ d out) (λx L s h=>TX hr V x L s h) (dx d) (out,m) (Qc hr hm);refine⟨?_,M8 (PJ d out) (λx L s h=>⟨?_,TX hr V x L s h⟩) _ _ (Qc hr hm)⟩;cases E:cG (aR d) (dx d) (out,m)with
 |inr s=>exact .inl ⟨s,rfl,af5 hr (h1 s E)⟩
 |inl y=>
  refine .inr ⟨y,rfl,?_⟩;obtain⟨x,L,s,g1,g2⟩:=h2 y E;obtain⟨O,r,h,Y,X,q3,rfl,q5,W⟩:=M9 hr g1;rcases K2 hr V Y X q3 W with⟨_,e⟩ | ⟨e0,e1,_⟩ | ⟨v,_,_,_,_,_,e⟩;grind
  exact⟨O,r,h,⟨_,W⟩,Y,X,e0,e1⟩;grind
 obtain⟨O,r,h,Y,X,q3,rfl,q5,W⟩:=M9 hr h;unfold i_;simp only;refine λ_=>⟨⟨g5,g5⟩,Y6 _ _,λ_=>?_⟩;have:=W.aue hr V g5;grind [dT]
end Go.Sx
end
section
namespace Go.Sx
open Go.Lib Go.Proofs Go.Shelf Go.Sort
open IntKind (i64)
def K (x y:Order):Prop:=x.hour=y.hour/\x.index=y.index/\x.S2=y.S2
variable {x y:Order}
theorem K.symm(h:K x y):K y x:=⟨h.1.symm,h.2.1.symm,h.2.2.symm⟩
def Za(h:Cq x=Cq y):x.S2=y.S2:=by
 grind [Cq]
def FM(h1:¬olt x y)(h2:¬olt y x):K x y:=by
 have e:x.hour=y.hour/\x.index=y.index/\Cq x=Cq y:=by grind [olt]
 exact⟨e.1,e.2.1,Za e.2.2⟩
def af6(h:olt x y):¬K x y:=λ⟨h1,h2,E⟩ =>by
 grind [Cq,olt]
variable {l:List Order}
def TY(h:l.Pairwise λx y=>¬K x y)(E:x∈l)(hy:y∈l)(O:K x y):x=y:=by
 obtain⟨i,hi,rfl⟩:=aoM E;obtain⟨j,V,rfl⟩:=aoM hy;rw[ao3]at h;rcases Nat.lt_trichotomy i j with q|q|q;grind
 subst q;rfl;exact absurd O.symm (h j i V hi q)
def Zb(h:l.Pairwise λx y=>¬K x y):apart aA l:=λx E y hy h1 h2=>by
 refine TY h E hy (FM (λq=>?_) λq=>?_);unfold ltOf at h1;rw[decide_eq_false_iff_not]at h1;exact h1 ((P7 _ _).2 q);unfold ltOf at h2;rw[decide_eq_false_iff_not]at h2;exact h2 ((P7 _ _).2 q)
theorem zb (l:List Order):(srt aA l).Perm l:=apo _ _
def r8{m:List Order}(h:l.Perm m)(E:m.Pairwise λx y=>¬K x y):l.Pairwise λx y=>¬K x y:=
 (h.pairwise_iff (λ{x y} (h:¬K x y) (k:K y x) =>h k.symm)).2 E
def af7(h:l.Pairwise λx y=>¬K x y):(srt aA l).Pairwise olt:=by
 have h1:(srt aA l).Pairwise λx y=>(!(ltOf aA y x))=true:=by
  refine apk (λa b c h1 h2=>?_) (λa b=>?_) l;simp only[aox]at h1 h2 |-;exact xz.ntrans _ _ _ h2 h1;cases q:ltOf aA b a with
  |false=>rfl
  |true=>
   cases E:ltOf aA a b with
   |false=>rfl|true=>have:=xz.trans _ _ _ q E;rw[xz.irrefl]at this;cases this
 have h2:=r8 (zb l) h;refine(h1.and h2).imp λ{x y} ⟨W,E⟩ =>?_;have O:¬olt y x:=λq=>by
  have:ltOf aA y x=true:=by unfold ltOf;rw[decide_eq_true_eq];exact(P7 _ _).2 q
  grind
 exact aoU λV=>E (FM V O)
structure asG (d:ah)(l:List Order):Prop where
 chk:av d=0
 len:l.length<=4096
 one:∀ x∈l,atk d x
 asc:l.Pairwise olt
variable {d:ah}
theorem asG.right(h:asG d l):arW d:=kE (by rw[h.chk];rfl)
theorem M_(h:dp d l=0):asG d l:=by
 have E:=uS (d:=d) (l:=l) (by rw[h];rfl);refine⟨((AA d l).1 h).1,E.len,λx V=>?_,ao3.2 λi j hi W O=>?_⟩;obtain⟨i,hi,rfl⟩:=aoM V;have:=E.one i hi;grind
 have:=E.lt j i O W;grind
theorem asG.asB(h:asG d l):arS d l:=by
 refine⟨h.right,h.len,λk E=>?_,λk E=>?_⟩;rw[ik _ _ E];exact h.one _ (apg _);rw[ik _ _ E,ik _ _ (by omega:k<l.length)];exact(P7 _ _).2 (ao3.1 h.asc _ _ _ _ g5)
theorem asG.keys(h:asG d l):l.Pairwise λx y=>¬K x y:=h.asc.imp λ{_ _} q=>af6 q
theorem Zc(h:asG d l):dp d l=0:=by
 refine(AA d l).2 ⟨h.chk,h.len,λk W=>?_⟩;have E:=h.one _ (DQ l default W);have O:(decide ((k:Int) > 0)&&decide (aA (l.getD (i64.wrap ((k:Int) - 1)).toNat default) (l.getD k default)>=0))=false:=by
  rw[aps,decide_eq_false_iff_not,decide_eq_false_iff_not];by_cases hk0:0<k
  right;have X:=h.len;rw[pA g5 hk0,aol];have:=h.asB.asc (k - 1) g5;grind
  omega
 unfold jM;rw[O];generalize l.getD k default=x at E;cases V:x.S2 with
 |true=>
  have:=E.dd V;simp only[cond_true];have e:(decide (x.hour<0) ||decide (x.hour>=d.hours) ||decide (x.index<0) ||decide (x.index>=(d.zs.length:Int)) ||decide (x.bl<1) ||decide (x.bl > 1073741824) ||false)=false:=by
   have:=E.as5;have:=E.hour;have:=E.asP;have:=E.asS;have:=E.bl;grind
  rw[e];rfl
 |false=>
  have:=E.reach V;simp only[cond_false];have e:(decide (x.hour<0) ||decide (x.hour>=d.hours) ||decide (x.index<0) ||decide (x.index>=(d.reaches.length:Int)) ||decide (x.bl<1) ||decide (x.bl > 1073741824) ||false)=false:=by
   have:=E.as5;have:=E.hour;have:=E.asP;have:=E.asS;have:=E.bl;grind
  rw[e];rfl
structure Nar (d:ah)(l:List Order):Prop where
 good:asG d l
 wide:(d.reaches.length:Int)*d.hours<=1024
theorem zP(hr:arW d):0<=(d.reaches.length:Int)*d.hours/\(d.reaches.length:Int)*d.hours<=262144:=by
 have:=hr.reaches;have:=hr.hours;have:=hr.ar9;have h1:=Int.mul_le_mul (by omega:(d.reaches.length:Int)<=64) hr.hours g5 g5;have h2:=aqd (by omega:0<=(d.reaches.length:Int)) (by omega:0<=d.hours);omega
theorem Ba (d:ah)(l:List Order):eF d l=0↔Nar d l:=by
 unfold eF;by_cases h:dp d l=0
 have E:=M_ h;have O:=zP E.right;rw[aw g5 g5,h];by_cases hw:(d.reaches.length:Int)*d.hours > 1024
 rw[decide_eq_true hw];simp only[beq_self_eq_true,Bool.and_self,cond_true];exact⟨λe=>(by cases e),λe=>(by have:=e.wide;omega)⟩;rw[decide_eq_false hw];simp only[Bool.and_false,cond_false];exact⟨λ_=>⟨E,g5⟩,λ_=>trivial⟩;have:(dp d l==0)=false:=g6
 rw[this];simp only[are,cond_false];exact⟨λe=>absurd e h,λe=>absurd (Zc e.good) h⟩
structure PL (d:ah)(out gs:List Order):Prop where
 good:asG d (srt aA (out++gs))
 fin:atA d out gs
theorem In{out O:List Order}(V:asG d out)(E:∀ x∈out,x.S2=true)(h:atA d out O):(out++O).Pairwise λx y=>¬K x y:=by
 rw[aoG];refine⟨V.keys,h.uniq.imp λ{x y} q k=>q ⟨k.2.1,k.1⟩,λx W y hy k=>?_⟩;have:=k.2.2;rw[E x W,(h.gate y hy).out]at this;cases this
theorem abY{out V:List Order}(E:asG d out)(h:atA d out V):∀ x∈out++V,atk d x:=λx hx=>by
 rcases aoQ.1 hx with hx|hx;exact E.one x hx;have g:=h.gate x hx;have O:=Cu E.right g;have hd:=wK E.right (r:=x.index.toNat) (by have:=g.i0;have:=g.i1;omega);rw[show((x.index.toNat:Nat):Int)=x.index from apq g.i0]at hd;have:=g.h1;exact⟨g.h0,g5,g.i0,λe=>(by rw[g.out]at e;cases e),λ_=>g.i1,O.1,O.2.1⟩
theorem Io (d:ah)(out:List Order):
  (eF d out≠0/\aX d out=([],false,eF d out))\/
  (Nar d out/\¬ (∀ x∈out,x.S2=true)/\aX d out=([],false,220))\/
  (Nar d out/\(∀ x∈out,x.S2=true)/\(∃ O r h,PX d out O r h)/\aX d out=([],false,0))\/
  (Nar d out/\(∀ x∈out,x.S2=true)/\∃ O,atA d out O/\4096< (out++O).length/\aX d out=([],false,2))\/
  (Nar d out/\(∀ x∈out,x.S2=true)/\∃ O,PL d out O/\aX d out=(srt aA (out++O),true,0)):=by
 unfold aX;by_cases hn:eF d out=0
 have V:=(Ba d out).1 hn;have hr:=V.good.right;have X:=V.good.asB;rw[hn];simp only[bne_self_eq_false,cond_false];obtain⟨f1,_,f3⟩:=DR hr X;by_cases E:∀ x∈out,x.S2=true
 obtain⟨m,hm⟩:=f3 E;rw[hm];simp only;obtain⟨h1,_⟩:=Im hr X (f1 m hm).2;rcases h1 with⟨s,hs,O,e1,W⟩ | ⟨y,hy,Y⟩;rw[hs];simp only[e1];by_cases hl:(out++O).length<=4096
 rw[decide_eq_false g5];refine .inr (.inr (.inr (.inr ⟨V,E,O,⟨⟨V.good.chk,?_,λx Y=>abY V.good W x ((zb _).mem_iff.1 Y),af7 (In V.good E W)⟩,W⟩,rfl⟩)));rw[(zb _).length_eq];exact hl;grind
 grind
 grind
 grind
def Zd (d:ah)(l:List Order):od d l:=Ih d l
theorem af8 (d:ah)(out:List Order):qG d out:=by
 refine⟨Zd _ _,λhn=>?_⟩;have V:=(Ba d out).1 g6;have hr:=V.good.right;have E:=V.good.asB;obtain⟨W,f2,f3⟩:=DR hr E;refine λ_=>⟨f2,λm Y=>⟨?_,?_,?_⟩⟩;have:=E.len;unfold dT;omega;have:=hr.hours;omega;obtain⟨h1,h2⟩:=Im hr E (W m Y).2;refine⟨h2,λs X _ _=>?_⟩;rcases h1 with⟨s',O,gs,e1,e2⟩ | ⟨y,hy,_⟩;rw[O]at X;cases X;rw[e1];exact Zb (In V.good (W m Y).1 e2);grind
end Go.Sx
end
section
namespace Go.Sx
open Go.Proofs
variable {κ υ:Type}[DecidableEq κ]in
theorem Qd:∀ (l:List (κ×υ)) (x:κ) (y:υ) (e:κ×υ),e∈u5 l x y->e=(x,y)\/e∈l
 | [],x,y,e,h=>by grind [u5]
 |(a,b)::r,x,y,e,h=>by
  unfold u5 at h;by_cases q:x=a
  grind
  rw[if_neg q]at h;rcases aoD.1 h with h|h;grind
  rcases Qd r x y e h with h|h <;>grind
variable {κ υ:Type}[DecidableEq κ]in
theorem K3:∀ (l:List (κ×υ)) (x:κ) (y:υ),jy l x=some y->(x,y)∈l
 |(a,b)::r,x,y,h=>by
  unfold jy at h;by_cases q:x=a
  grind
  rw[if_neg q]at h;exact aor _ (K3 r x y h)
variable {κ υ:Type}[DecidableEq κ]in
theorem Sp {l:List (κ×υ)}(h:(l.map Prod.fst).Nodup)(x:κ)(y:υ):((u5 l x y).map Prod.fst).Nodup:=by
 grind [A9]
structure SM (k:Tag)(f:k.T->Int)(m:List (k.T×Int)):Prop where
 get:∀ p,aC k .int m p=f p
 nd:(m.map Prod.fst).Nodup
 pos:∀ e∈m,1<=e.2
variable {k:Tag}
theorem SM.nil:SM k (λ_=>0) []:=⟨λ_=>rfl,apL,λ_ h=>by cases h⟩
variable {f:k.T->Int}{m:List (k.T×Int)}
theorem SM.put(h:SM k f m)(x:k.T){v:Int}(E:1<=v){g:k.T->Int}(O:∀ p,g p=if p=x then v else f p):SM k g (dF k .int m x v):=by
 refine⟨λp=>?_,Sp h.nd x v,λe he=>?_⟩;rw[lE,h.get,O];rcases Qd (υ:=Int) m x v e he with rfl|he;exact E;exact h.pos e he
theorem SM.entry(h:SM k f m){e:k.T×Int}(E:e∈m):e.2=f e.1/\1<=f e.1:=by
 have h1:=P_ m e h.nd E;have h2:=h.get e.1;unfold aC at h2;rw[h1]at h2;have O:e.2=f e.1:=h2;exact⟨O,O▸h.pos e E⟩
theorem SM.mem(h:SM k f m){p:k.T}(O:f p≠0):(p,f p)∈m:=by
 have h2:=h.get p;unfold aC at h2;cases E:jy m p with
 |none=>rw[E]at h2;exact absurd h2.symm O
 |some v=>
  rw[E]at h2;have V:v=f p:=h2;exact V▸K3 m p v E
def gP (r h:Int)(x:Order):Bool:= !x.S2&&x.index==r&&x.hour==h
def Qe (l:List Order)(r h:Int):Int:=b7 (gP r h) l
variable {r h:Int}{x:Order}
theorem Ze{y:Order}(E:gP r h x=true)(hy:gP r h y=true):K x y:=by
 unfold gP at E hy;simp only[aoj,aox,beq_iff_eq]at E hy;exact⟨g5,g5,g6⟩
variable {p:Order->Bool}{l:List Order}
theorem vG(W:l.Pairwise λx y=>¬K x y)(V:∀ x y,p x=true->p y=true->K x y)(E:x∈l)(h:p x=true):b7 p l=x.bl:=by
 obtain⟨i,hi,rfl⟩:=aoM E;refine P9 hi h λj X O=>?_;grind [List.pairwise_iff_getElem]
theorem Zf(O:l.Pairwise λx y=>¬K x y)(E:x∈l)(V:x.S2=false):Qe l x.index x.hour=x.bl:=
 vG O (λ_ _ h1 h2=>Ze h1 h2) E (by grind [gP])
theorem Na(h:b7 p l≠0):∃ x∈l,p x=true:=
 aoU λq=>h (pH λx E=>by
  grind)
theorem abZ(W:l.Pairwise λx y=>¬K x y)(V:Qe l r h≠0):∃ x∈l,x.S2=false/\x.index=r/\x.hour=h/\x.bl=Qe l r h:=by
 obtain⟨x,O,E⟩:=Na V;have:=vG W (λ_ _ h1 h2=>Ze h1 h2) O E;unfold gP at E;simp only[aoj,aox,beq_iff_eq]at E;exact⟨x,O,E.1.1,E.1.2,E.2,this.symm⟩
def akR (d:ah)(l:List Order):Prop:= ∀ r h:Int,0<=r->1<=drw d l r h->∃ w,gS (rch d r) (Qe l r (h - (rch d r).delay))=(w,0)/\drw d l r h<=w
variable {d:ah}
theorem Nb(E:asG d l)(hr:0<=r)(hd:drw d l r h≠0):r< (d.reaches.length:Int)/\0<=h/\h<d.hours:=by
 obtain⟨x,X,V⟩:=Na hd;have h1:=E.one x X;unfold jv at V;simp only[aoj,aoN,aox,beq_iff_eq]at V;have a1:=h1.as5;have a2:=h1.hour;have Y:=h1.asP;refine⟨?_,g5,g5⟩;rcases V.2 with⟨O,W⟩ | ⟨O,W⟩;have:=h1.dd O;have:=E.right.dd x.index.toNat g5;omega;have:=h1.reach O;have:=Y_ E.right (r:=x.index.toNat) g5;grind
variable {P:Order->Bool}
theorem K4{m:List Order}(h:l.Perm m):b7 P l=b7 P m:=by
 induction h with
 |nil=>rfl|cons x _ V=>grind [b7]|swap x y l=>grind [b7]|trans _ _ E O=>rw[E,O]
theorem Nc(h:∀ x∈l,0<=x.bl):0<=b7 P l:=by
 induction l with
 |nil=>exact ao7 _
 |cons x r E=>
  simp only[b7];grind
theorem zc {P:Order->Bool}(hP:∀ x y,K x y->P x=P y):∀ (A B:List Order),A.Pairwise (λx y=>¬K x y)->(∀ x∈A,P x=true->∃ z∈B,K z x/\x.bl<=z.bl)->(∀ z∈B,0<=z.bl)->b7 P A<=b7 P B
 | [],B,_,_,W=>Nc W
 |x::A,B,hA,hd,W=>by
  have O:=(apc.1 hA);simp only[b7];cases hx:P x with
  |false=>
   have:=zc hP A B O.2 (λy hy Y=>hd y (aor _ hy) Y) W;grind
  |true=>
   obtain⟨z,hz,hk,hl⟩:=hd x aow hx;have V:=K4 (P:=P) (arc hz);have X:P z=true:=g6
   simp only[b7,X,cond_true]at V;have:=zc hP A (B.erase z) O.2 (λy hy Y=>by
    obtain⟨w,hw,E,hlw⟩:=hd y (aor _ hy) Y;refine⟨w,?_,E,hlw⟩;have hne:w≠z:=λe=>by
     subst e;exact O.1 y hy ⟨hk.1.symm.trans E.1,hk.2.1.symm.trans E.2.1,hk.2.2.symm.trans E.2.2⟩
    grind) (λw hw=>W w (List.mem_of_mem_erase hw))
   grind
theorem K5 (d:ah)(r h:Int)(x y:Order)(E:K x y):jv d r h x=jv d r h y:=by
 unfold jv;rw[E.1,E.2.1,E.2.2]
structure atI (d:ah)(l:List Order):Prop where
 good:asG d l
 sip:∀ x∈l,x.S2=false->(rch d x.index).arR<=x.bl
 kept:akR d l
theorem K6(h:atI d l){E:Int}(X:0<=r)(h1:1<=drw d l r E):∃ z∈l,z.S2=false/\z.index=r/\z.hour=E - (rch d r).delay/\drw d l r E<=wst (rch d r) z.bl/\1<=z.bl/\z.bl<=1073741824/\(rch d r).arR<=z.bl/\r< (d.reaches.length:Int):=by
 obtain⟨w,O,e2⟩:=h.kept r E X h1;obtain⟨q1,_,_⟩:=Nb h.good X (by omega:drw d l r E≠0);have V:cH (r.toNat:Int) (rch d r)=true:=h.good.right.reach r.toNat g5;by_cases W:Qe l r (E - (rch d r).delay)=0
 exfalso;rw[W,oe V (ao7 0) g5,Y4 V]at O;grind
 obtain⟨z,Y,z1,z2,z3,z4⟩:=abZ h.good.keys W;have hl:=h.good.asB.lit z Y;rw[<-z4,oe V g5 hl.2]at O;cases O;have:=h.sip z Y z1;grind
theorem Sq{out O:List Order}(ho:asG d out)(V:∀ x∈out,x.S2=true)(h:PL d out O):atI d (srt aA (out++O)):=by
 have hr:=ho.right;have E:=zb (out++O);have hk:=In ho V h.fin;refine⟨h.good,λx X hxo=>?_,λr W r0 h1=>?_⟩;rcases aoQ.1 (E.mem_iff.1 X)with q|q;grind
 exact(Cu hr (h.fin.gate x q)).2.2.1;have hd:drw d (srt aA (out++O)) r W=drw d (out++O) r W:=K4 E;obtain⟨q1,q2,q3⟩:=Nb h.good r0 (by omega:drw d (srt aA (out++O)) r W≠0);obtain⟨x,X,e1,e2⟩:=h.fin.all r W r0 q1 q2 q3 g5;have g:=h.fin.gate x X;have gl:=Cu hr g;rw[e1,e2]at gl;have Y:cH (r.toNat:Int) (rch d r)=true:=hr.reach r.toNat g5;have hg:Qe (srt aA (out++O)) r (W - (rch d r).delay)=x.bl:=by
  have e:Qe (srt aA (out++O)) x.index x.hour=x.bl:=Zf h.good.keys (E.mem_iff.2 (apQ _ X)) g.out;grind
 refine⟨wst (rch d r) x.bl,?_,g5⟩;rw[hg];exact oe Y g5 gl.2.1
theorem Nd {ρ σ:Type}{step:Nat->σ->ρ⊕σ}(J:Nat->σ->Prop):∀ (n i:Nat) (s:σ),J i s->(∀ j s,i<=j->j<i+n->J j s->∃ s',step j s=.inr s'/\J (j+1) s')->∃ s',aj step n i s=.inr s'/\J (i+n) s'
 |0,i,s,h,_=>⟨s,rfl,h⟩
 |n+1,i,s,h,hs=>by
  obtain⟨s1,O,h1⟩:=hs i s (aom _) g5 h;obtain⟨E,V,h2⟩:=Nd J n (i+1) s1 h1 λj s a b=>hs j s g5 g5;grind [aj]
end Go.Sx
end
section
namespace Go.Sx
open Go.Proofs Tryz
open IntKind (i64)
def ar8 (g:List (List Int))(n m:Nat):Prop:=g.length=n/\∀ i,i<n->(g.getD i []).length=m
variable {g:List (List Int)}{n m:Nat}{r:List Int}
theorem ar8.app(h:ar8 g n m)(hr:r.length=m):ar8 (g++[r]) (n+1) m:=by
 refine⟨by simp[h.1],λi hi=>?_⟩;by_cases e:i<n
 have:=h.2 i e;grind
 have:i=g.length:=by have:=h.1;omega
 grind
theorem ar8.set{i:Nat}(h:ar8 g n m)(hr:i<n->r.length=m):ar8 (g.set i r) n m:=by
 refine⟨by simp[h.1],λj E=>?_⟩;have O:=h.2 j E;grind
variable {j:Nat}
theorem ar8.atY{i:Nat}{v:Int}(h:ar8 g n m):ar8 (g.set i ((g.getD i []).set j v)) n m:=
 h.set λhi=>by simpa using h.2 i hi
theorem ar8.row{i:Nat}(h:ar8 g n m)(hi:i<n):(g.getD i []).length=m:=h.2 i hi
theorem zd {f:Nat->List B1}{step:Nat->List B1->Empty⊕List B1}(h:∀ j s,step j s=.inr (s++f j)):∀ n i s,aj step n i s=.inr (s++(List.range' i n).flatMap f)
 |0,i,s=>by simp[aj]
 |n+1,i,s=>by
  simp only[aj,h];rw[zd h n (i+1) (s++f i)];simp[apA]
theorem Nf{f:Nat->List B1}{step:Nat->List B1->Empty⊕List B1}(h:∀ j s,step j s=.inr (s++f j))(B:Nat)(V:∀ j,(f j).length<=B){p:Nat->List B1->Prop}{s0:List B1}
  (O:∀ j s,j<n->s.length<=s0.length+j*B->p j s):okI step p n 0 s0:=
 ij (λj s=>s.length<=s0.length+j*B) _ _ _ g5 λj s _ W E=>⟨O j s g5 E,λs' e=>by
  grind⟩
theorem Ip {τ:Type}{f:τ->List B1}{step:τ->List B1->Empty⊕List B1}(h:∀ x s,step x s=.inr (s++f x)):∀ l s,cG step l s=.inr (s++l.flatMap f)
 | [],s=>by simp[cG]
 |x::l,s=>by
  simp only[cG,h];rw[Ip h l (s++f x)];simp
theorem Ng {τ:Type}{f:τ->List B1}{step:τ->List B1->Empty⊕List B1}(h:∀ x s,step x s=.inr (s++f x))(B:Nat)(O:∀ x,(f x).length<=B){p:τ->List B1->Prop}:∀ (l:List τ) (s:List B1),
  (∀ x∈l,∀ s',s'.length<=s.length+l.length*B->p x s')->okL step p l s
 | [],_,_=>trivial
 |x::l,s,E=>by
  refine⟨E x (by simp) s g5,λs' e=>?_⟩;rw[h]at e;simp only[aoK]at e;subst e;refine Ng h B O l _ λy hy s' V=>E y (by simp[hy]) s' ?_;grind [Nat.succ_mul]
theorem wL {α:Type}(f:α->List B1)(h:∀ x,(f x).length<=1):∀ l:List α,(l.flatMap f).length<=l.length
 | [] =>by simp
 |x::l=>by
  have:=wL f h l;grind
theorem K7 (d:ah)(c:List Claim):nA d c:=λ_ h1 _ _=>iA _ _ _ λj s h2 E=>by
 unfold aI at h1;unfold mE;refine⟨λh=>?_,λh=>?_,λ_ h=>?_⟩;grind
 grind
 simp only[decide_eq_true_eq]at h;grind [pA]
theorem Iq {ρ:Type}{step:Nat->Unit->ρ⊕Unit}:∀ {n i:Nat} {s:Unit} {y:ρ},aj step n i s=.inl y->∃ j,i<=j/\j<i+n/\step j ()=.inl y
 |n+1,i,s,y,h=>by
  simp only[aj]at h;cases E:step i s with
  |inl r=>grind
  |inr s'=>
   rw[E]at h;obtain⟨j,h1,h2,O⟩:=Iq h;grind
theorem K8 {α:Type}(f:α->List B1)(B:Nat)(h:∀ x,(f x).length<=B):∀ l:List α,(l.flatMap f).length<=l.length*B
 | [] =>by simp
 |x::l=>by
  have:=K8 f B h l;grind [Nat.succ_mul]
theorem Nh (d:ah)(c:List Claim):bX d c=0↔av d=0/\c.length<=4096/\∀ k,k<c.length->kl d c k ()=.inr ():=by
 unfold bX;cases h1:(av d !=0)with
 |true=>grind
 |false=>
  simp at h1;simp only[cond_false,h1,true_and];grind [iM]
def Ni (a b:Claim):Prop:=a.hour<b.hour\/a.hour=b.hour/\(a.arM<b.arM\/a.arM=b.arM/\(a.right<b.right\/a.right=b.right/\a.dd<b.dd))
theorem Sr {a b c:Claim}(h1:Ni a b)(h2:Ni b c):Ni a c:=by
 grind [Ni]
theorem af9 (a b c d:Int):gO [a,b,c,d]=if a≠0 then a else if b≠0 then b else if c≠0 then c else d:=by
 unfold gO;simp only[aon,aoI,aou,Nat.reduceAdd,aj,s4,aqJ,List.getD_cons_succ];grind
theorem Vz (a b:Claim):df a b<0↔Ni a b:=by
 grind [df,Ni,af9,kD]
def okC (d:ah)(a:Claim):Bool:=letI b:=d.bh.getD a.right.toNat default;(((((((((decide (a.right>=0))&&(decide (a.right< (d.bh.length:Int))))&&(decide (a.dd>=0)))&&(decide (a.dd< (d.zs.length:Int))))&&(decide (a.hour>=0)))&&(decide (a.hour<d.hours)))&&(decide (a.bl>=1)))&&(decide (a.bl<=1073741824))))&&(b.kind==1)&&(b.arM==a.arM)
variable {d:ah}
theorem EB{c:List Claim}{k:Nat}(W:k<4096):kl d c k ()=.inr ()↔okC d (c.getD k default)=true/\(0<k->Ni (c.getD (k - 1) default) (c.getD k default)):=by
 have hw:k > 0->(i64.wrap ((k:Int) - 1)).toNat=k - 1:=λh=>by grind [pA]
 have O:∀ X:Bool,((bif X then Sum.inl ()else Sum.inr ()):Unit⊕Unit)=.inr ()↔X=false:=λX=>g6
 unfold kl okC;rw[O];generalize E:((((((((decide ((c.getD k default).right>=0))&&(decide ((c.getD k default).right< (d.bh.length:Int))))&&(decide ((c.getD k default).dd>=0)))&&(decide ((c.getD k default).dd< (d.zs.length:Int))))&&(decide ((c.getD k default).hour>=0)))&&(decide ((c.getD k default).hour<d.hours)))&&(decide ((c.getD k default).bl>=1)))&&(decide ((c.getD k default).bl<=1073741824)))=q;clear E;by_cases V:0<k
 rw[hw V,<-Vz];grind
 simp_all
theorem jW (d:ah)(c:List Claim):bX d c=0↔av d=0/\c.length<=4096/\(∀ a∈c,okC d a=true)/\c.Pairwise Ni:=by
 rw[Nh];refine and_congr_right λ_=>and_congr_right λY=>?_;constructor
 intro h;have X:=λk E=>(EB g5).1 (h k E);refine⟨λa W=>?_,?_⟩;obtain⟨k,E,rfl⟩:=aoM W;grind
 have key:∀ (k j:Nat),j<k->k<c.length->Ni (c.getD j default) (c.getD k default):=by
  intro k;induction k with
  |zero=>omega
  |succ k V=>
   intro j h1 h2;have O:=(X (k+1) h2).2 g5;rw[aqL]at O;by_cases e:j=k
   grind
   exact Sr (V j g5 g5) O
 grind [List.pairwise_iff_getElem]
 rintro⟨h1,h2⟩ k E;refine(EB g5).2 ⟨?_,λh0=>?_⟩;grind
 rw[ik _ _ E,ik _ _ (by omega:k - 1<c.length)];exact ao3.1 h2 _ _ _ _ g5
def nN (a:Claim):Q1:= { hour:=a.hour,index:=a.dd,S2:=true}
def eV (p:Q1):List Claim->Int
 | [] =>0|a::r=>(if p=nN a then a.bl else 0)+eV p r
theorem EC (p:Q1)(a b:List Claim):eV p (a++b)=eV p a+eV p b:=by
 induction a with
 |nil=>simp[eV]|cons x r E=>grind [eV]
theorem AB (p:Q1)(c:List Claim)(h:∀ a∈c,1<=a.bl/\a.bl<=1073741824):0<=eV p c/\eV p c<=c.length*1073741824:=by
 induction c with
 |nil=>simp[eV]
 |cons x r E=>
  have h1:=E λa O=>h a (aor _ O);grind [eV]
theorem Bb{a:Claim}(h:okC d a=true):1<=a.bl/\a.bl<=1073741824:=by
 simp_all [okC]
def bO (c a b:Int)(x:Order):Bool:=(!x.S2&&x.index==c)&&decide (x.hour>=a)&&decide (x.hour<=b)
def Cv (b a:Int)(x:Order):Bool:=(x.S2&&x.index==b)&&x.hour==a
theorem TZ {α:Type}(l:List α)(d r:α)(i k:Nat)(hi:i<l.length):(l.set i r).getD k d=if k=i then r else l.getD k d:=by
 grind
def cell (g:List (List Int))(i j:Nat):Int:=(g.getD i []).getD j 0
theorem zQ(E:ar8 g n m){i:Nat}(hi:i<n)(O:j<m)(v:Int)(a b:Nat):cell (g.set i ((g.getD i []).set j v)) a b=if a=i/\b=j then v else cell g a b:=by
 unfold cell;have h1:i<g.length:=by rw[E.1];exact hi
 rw[TZ _ _ _ _ _ h1];by_cases V:a=i
 subst V;rw[if_pos rfl,TZ _ _ _ _ _ (by rw[E.row hi];exact O)];omega;grind
def qH (h i:Int)(o:Bool)(x:Order):Bool:=(x.hour==h&&x.index==i)&&x.S2==o
variable {l:List Order}
theorem DS(O:arS d l)(X:j<l.length){p:Order->Bool}(W:∀ x,p x=true->x.hour=l[j].hour/\x.index=l[j].index/\x.S2=l[j].S2):b7 p (l.take j)=0:=
 pH λx V=>by
  obtain⟨i,hi,rfl⟩:=aoM V;rw[aph]at hi;rw[List.getElem_take];cases h:p l[i]with
  |false=>rfl
  |true=>
   obtain⟨Y,e2,E⟩:=W _ h;have:=O.uniq g5 X Y e2 E;omega
theorem Nj(E:arS d l)(p:Order->Bool)(j:Nat):0<=b7 p (l.take j)/\b7 p (l.take j)<=4398046511104:=by
 have V:=A8 (p:=p) λa O=>E.lit a (apm (i:=j) O);have W:=E.len;grind
theorem amV {a:Nat}{b:Int}(E:0<=b):((b==(a:Int))=true)↔a=b.toNat:=by
 grind
theorem Ss(E:arS d l)(r:Int)(t:Nat):b7 (bO r 0 ((t:Int) - 1)) l+b7 (bO r t t) l=b7 (bO r 0 t) l:=
 P8 λx O=>by
  unfold bO;grind
theorem DT(E:arS d l)(p:Order->Bool):0<=b7 p l/\b7 p l<=4398046511104:=by
 have:=Nj E p l.length;grind
theorem K9 (n m i j:Nat)(hi:i<n):∀ (g:List (List Int)),(∀ k,k<n->g.getD k []=List.replicate m 0)->cell g i j=0:=λg h=>by
 grind [cell]
structure auN (d:ah)(c:List Claim)(l:List Order):Prop where
 ho:arS d l
 avq:c.length<=4096
 okc:∀ a∈c,okC d a=true
 cap:∀ r h:Nat,r<d.reaches.length->b7 (bO r h h) l<=(d.reaches.getD r default).cap
 ar6:∀ r h:Nat,r<d.reaches.length->h<d.hours.toNat->b7 (bO r ((h:Int) - (d.reaches.getD r default).delay+1) h) l<=(d.reaches.getD r default).ar6
 arJ:∀ h:Nat,h<d.hours.toNat->b7 (bO (0:Nat) 0 h) l<=d.arJ.start
 atD:∀ r h:Nat,r<d.reaches.length->h<d.hours.toNat->b7 (jv d r h) l<=(gS (d.reaches.getD r default) (b7 (bO r ((h:Int) - (d.reaches.getD r default).delay) ((h:Int) - (d.reaches.getD r default).delay)) l)).1
 atE:∀ h f:Nat,h<d.hours.toNat->f<d.zs.length->eV { hour:=(h:Int),index:=(f:Int),S2:=true} c<=b7 (Cv f h) l
theorem Qf(ho:arS d l)(r h:Int):b7 (bO r h h) l=0\/∃ (j:Nat) (O:j<l.length),l[j].S2=false/\l[j].index=r/\l[j].hour=h/\b7 (bO r h h) l=l[j].bl:=by
 by_cases hx:∃ (j:Nat) (O:j<l.length),bO r h h l[j]=true
 obtain⟨j,O,Y⟩:=hx;have E:=Y;unfold bO at E;simp only[aoj,beq_iff_eq,decide_eq_true_eq,aox]at E;refine .inr ⟨j,O,E.1.1.1,E.1.1.2,g5,P9 O Y λi hi X=>?_⟩;cases V:bO r h h l[i]with
 |false=>rfl
 |true=>
  unfold bO at V;simp only[aoj,beq_iff_eq,decide_eq_true_eq,aox]at V;exact absurd (ho.uniq hi O g5 (V.1.1.2.trans E.1.1.2.symm) (V.1.1.1.trans E.1.1.1.symm)) X
 refine .inl (pH λx W=>?_);obtain⟨j,O,rfl⟩:=aoM W;grind
theorem Su(E:arS d l)(r h:Int):0<=b7 (bO r h h) l/\b7 (bO r h h) l<=1073741824:=by
 rcases Qf E r h with h1| ⟨j,O,_,_,_,h1⟩;omega;have:=E.lit l[j] (apg _);omega
theorem Sv (r h:Int)(x:Order):qH h r false x=bO r h h x:=by
 unfold qH bO;grind
theorem VA (f h:Int)(x:Order):qH h f true x=Cv f h x:=by
 grind [qH,Cv]
theorem Qg(E:arS d l)(r:Int){a m b:Int}(h1:a<=m)(h2:m<=b+1):b7 (bO r a (m - 1)) l+b7 (bO r m b) l=b7 (bO r a b) l:=P8 λx _=>by
 unfold bO;grind
theorem Zg(E:arS d l)(r:Int){a b:Int}(h:a<=0):b7 (bO r a b) l=b7 (bO r 0 b) l:=uT λx O=>by
 obtain⟨k,V,rfl⟩:=aoM O;have W:=(E.one k V).as5;grind [bO]
@[go_sem] def dD (c:List Claim)(e:Nat)(b:List (tm×Int)):Empty⊕(List (tm×Int)):=letI a:=c.getD e default;letI d:=({ index:=a.dd,hour:=a.hour}:tm);.inr (dF .bo .int b d (i64.wrap ((aC .bo .int b d)+a.bl)))
@[go_sem] def eO (c:List (tm×Int))(a:tm×Int)(b:List Order):Empty⊕(List Order):=.inr (b++([({ hour:=a.1.hour,index:=a.1.index,bl:=a.2,S2:=true}:Order)]))
def gW (c:List (tm×Int))(a:tm×Int)(b:List Order):Prop:=((b++([({ hour:=a.1.hour,index:=a.1.index,bl:=a.2,S2:=true}:Order)])).length*32<=dT)
def aq (c:List Claim):List Order:=(match aj (dD c) c.length 0 ([])with| .inl x=>x.elim| .inr a=>(match cG (eO a) a ([])with| .inl x=>x.elim| .inr b=>(srt ar b)))
def la (c:List Claim):Prop:=(c.length<=aI->(∀ l5,aj (dD c) c.length 0 ([])=.inr l5->(∀ L_1,L_1.Perm l5->(okL (eO l5) (gW l5) L_1 ([])/\(∀ s_1,cG (eO l5) L_1 ([])=.inr s_1->((apart ar s_1)/\((srt ar s_1)=(aq c))))))))
@[go_sem] def Ae:m0:=(pR .W2 λc=>(pE (.det (la c) (.nw .order (aq c)))))
theorem akS {p:Prop}(h:p:=by simp only[go_sem];all_goals exact clP):p:=h
theorem zf:X1 prog 164 Ae:=by
 have hG:=mG Y1 (co EA Y1);refine fE hG f164 (bG λc=>(am (λhp=>?_)));dsimp only[an]at hp;unfold la at hp;refine⟨nbl rfl,(λid st=>bif Nat.beq id 0 then some (LCR (ρ:=Empty) (σ:=(List (tm×Int))) 1 [] [0] (λY W=>⟨[(2,.v (.slice none 0 0)),(3,.os 0),(9,.rs .W2 c),(10,.i (c.length:Int)),(11,.i Y)],[.mp .bo .int W none]⟩) (dD c) pT c.length ([]) (c.length<=aI) ((·.elim)) ((·.elim)) st)else bif Nat.beq id 2 then some (LCP (τ:=tm×Int) (ρ:=Empty) (σ:=(List Order)) 2 [.slot 2 (.row .order ([]))] [0,1,2] (λE O V=>⟨[(2,.os 2),(29,.ptr 1 0)],[.mp .bo .int (bp (aj (dD c) c.length 0 ([]))) (some (1,none)),.mi (some 0) (bp (aj (dD c) c.length 0 ([]))).length E O,.row .order V]⟩) (eO (bp (aj (dD c) c.length 0 ([])))) (gW (bp (aj (dD c) c.length 0 ([])))) (bp (aj (dD c) c.length 0 ([]))) ([]) ((·.elim)) ((·.elim)) (λV=>⟨[(2,.os 2)],[.dead,.dead,.row .order V]⟩) st)else none),?_,?_⟩
 ·unfold ae f164;simp only[ak,true_and,and_true];refine⟨?_,?_⟩;refine bu mixed aB hG kr (λ_=>rfl) (c.length:Int) rfl fO (λhb0 Y W asO _ hw hc=>⟨L0,ag _,?_⟩) (λhb0 W hc=>?_);exact bC (jl [0]);exact bD (jl [0])
  ·refine OT (fg .bo,fg .int) 1 mixed aB hG kr (λ_=>rfl) λE O V hp1=>⟨L0,ag _,?_⟩
   ·by_cases X:E=[]
    subst X;exact adp (jl [0,1,5]) (jl [0,1,2])
    ·simp only[go_sem,X];intro j hj1;obtain⟨as6,hq1⟩:=hp1 j hj1;unfold gW at hq1;all_goals exact fU (jl [0,1,5]) (jl [0,1,2])
 unfold ae f164;exact akS
@[go_sem] def cd (b:List Order)(a:Nat)(c:Unit):Int⊕Unit:=(bif(qF (b.getD a default))then .inl (a:Int)else .inr ())
def eC (a:List Order):Int:=(match aj (cd a) a.length 0 ()with| .inl b=>b| .inr c=>(-1))
@[go_sem] def nO:m0:=(pR .order λa=>(pFn 166 (pE ((pE (.det True (.i (eC a))))))))
theorem mV:X1 prog 244 nO:=by
 have hG:=mG (cp za Y1) Y1;refine fN hG f244 [.o] (bG λO=>(o5 (am ((am (λY=>?_))))));dsimp only[an]at Y;refine⟨nbl rfl,(λid st=>bif Nat.beq id 0 then some (LCR (ρ:=Int) (σ:=Unit) 0 [] [] (λV W=>⟨[(0,.rs .order O),(1,.fn 166 [] []),(7,.i (O.length:Int)),(8,.i V)],[]⟩) (cd O) pT O.length () (O.length<=aI) (λ_=>.ret) (λE=>⟨[(4,.i E)],[]⟩) st)else none),?_,?_⟩;unfold ae f244;simp only[ak,true_and,and_true];refine bu mixed aB hG kr (λ_=>rfl) (O.length:Int) rfl fO (λhb0 V W X _ hw hc=>⟨L0,ag _,?_⟩) (λhb0 W hc=>?_);exact bC (jl []);exact bD (jl []);unfold ae f244;try unfold eC
 exact zq2
def bN (a:List Order):Bool:=(decide ((eC a)>=0))
@[go_sem] def mc:m0:=(pR .order λa=>(pFn 166 (pE ((pE (.det True (.v (.bool (bN a)))))))))
theorem lQ:X1 prog 165 mc:=by
 have hG:=mG (cn [.sl .order,.o] mV Y1) Y1;refine fN hG f165 [.o] (bG λO=>(o5 (am ((am (λE=>?_))))));dsimp only[an]at E;refine⟨nbl rfl,L0,ag _,?_⟩;unfold ae f165;try unfold bN
 exact zq2
def aV (d:ah)(c:List Claim):List Order×Int:=letI a:=aq c;(bif((bX d c) !=0)then([],(bX d c))else(bif(decide ((i64.wrap ((d.reaches.length:Int)*d.hours)) > 1024))then([],2)else(bif(bN a)then([],270)else(a,0))))
def mJ (d:ah)(c:List Claim):Prop:=((nA d c)/\(((bX d c) !=0)=false->(d.reaches.length<=aI->((decide ((i64.wrap ((d.reaches.length:Int)*d.hours)) > 1024))=false->(la c)))))
@[go_sem] def Cw:m0:=(pD .al λd=>(pR .W2 λc=>(pE (.det (mJ d c) (.tup [.rs .order ((aV d c).1),.i ((aV d c).2)])))))
theorem Bc:X1 prog 108 Cw:=by
 have hG:=mG (cn [.st .al,.sl .W2] xW (cn [.sl .W2] zf (cn [.sl .order,.o] lQ Y1))) Y1;refine fN hG f108 [.sl .order,.o] (ax λd=>(bG λc=>(am (λE=>?_))));dsimp only[an]at E;unfold mJ at E;refine⟨nbl rfl,L0,ag _,?_⟩;unfold ae f108;try unfold aV
 exact zq2
end Go.Sx
end
