/- Part of the proof of the law RefuseHoldsSpec (the Upto form). -/
import Derived.Test.YtaikmgjfkejlkaaGreatT111
set_option linter.all false
set_option maxHeartbeats 4000000
set_option maxRecDepth 100000
section
namespace Go.Sx
open Go.Proofs Tryz
open IntKind (i64 u64)
variable {α β:Type}
def Je{ρ:Type}{step:Nat->List β->ρ⊕List β}(l:List α)(d:α)(f:α->Option β)(s0:List β)(h:∀ k s,k<l.length->step k s=.inr (s++(f (l.getD k d)).toList)):aj step l.length 0 s0=.inr (s0++l.filterMap f):=by
 have⟨r,h1,h2⟩:=i_ (step:=step) (λk s=>s=s0++(l.take k).filterMap f) l.length 0 s0 (by simp) (λj s _ O E=>by
  grind [cj])
 grind
def OF{ρ:Type}{step:Nat->List β->ρ⊕List β}{p:Nat->List β->Prop}(l:List α)(d:α)(f:α->Option β)(s0:List β)(h:∀ k s,k<l.length->step k s=.inr (s++(f (l.getD k d)).toList))(O:∀ k,k<l.length->p k (s0++(l.take k).filterMap f)):okI step p l.length 0 s0:=by
 refine gq (λk s=>s=s0++(l.take k).filterMap f) _ _ _ (by simp) λj s _ V E=>⟨XN,λs' e=>?_⟩;grind [cj]
theorem ady(l:List α)(d:α)(f:α->Option β){k:Nat}(E:k<l.length){c:β}(hc:f (l.getD k d)=some c):(l.filterMap f)[((l.take k).filterMap f).length]? =some c:=by
 grind [List.drop_eq_getElem_cons,List.take_append_drop]
theorem Vv{step:Nat->List β×Int->List β⊕(List β×Int)}{p:Nat->List β×Int->Prop}(fr to:Int)(G:Int->List β)(Y:0<=fr)(h1:to<4096)(E:fr<=to+1)
  (O:∀ k s h,fr<=h->h<=to->step k (s,h)=.inr (s++G h,i64.wrap (h+1))) (he:∀ k s h,to<h->step k (s,h)=.inl s)
  (W:∀ k h,fr<=h->h<=to+1->p k ((hrs fr (h - 1)).flatMap G,h)):okI step p 4098 0 ([],fr)/\aj step 4098 0 ([],fr)=.inl ((hrs fr to).flatMap G):=by
 have⟨a,r,b,c⟩:=A3 (step:=step) (p:=p) (λs=>(to+1 - s.2).toNat) (λs=>(fr<=s.2/\s.2<=to+1)/\s.1=(hrs fr (s.2 - 1)).flatMap G) (λr=>r=(hrs fr to).flatMap G) (λk s V=>by
  have⟨s,h⟩:=s;have⟨⟨j1,j2⟩,j3⟩:=V;simp at j1 j2 j3;subst j3;refine⟨W k h j1 j2,?_⟩;by_cases X:h<=to
  refine .inr ⟨_,O k _ h j1 X,?_⟩;rw[ar XM XM];refine⟨XM,⟨XM,XM⟩,?_⟩;rw[show h+1 - 1=(h - 1)+1 by omega,Rm XM];simp;grind) 4098 0 ([],fr) ⟨⟨aqO _,E⟩,by rw[adm XM];rfl⟩ XM
 grind
variable {d:ai}{h:Int}
theorem Ew{x:atN}(E:avl d x)(V:0<=h)(h1:h<4096):(((decide (h<x.since)) ||(decide (h > x.to))) ||(decide ((Int.tmod (i64.wrap (h - x.since)) x.every)>=x.length)))= !aat x h:=by
 have:=E.avD;unfold aat;by_cases O:x.since<=h
 rw[ar XM XM];grind
 grind
theorem Jf(l:List α)(d:α){k:Nat}(E:k<l.length):l.getD k d∈l:=XN
variable {l:List bo}{k:Int}
theorem GQ{j:Nat}(E:j< (aJ d l h k).1.length):((0<=((aJ d l h k).1.getD j default).right/\((aJ d l h k).1.getD j default).right< (d.bl.length:Int))/\(0<=h/\h<4096))/\avl d (d.bl.getD (Int.toNat ((aJ d l h k).1.getD j default).right) default)/\(d.bl.getD (Int.toNat ((aJ d l h k).1.getD j default).right) default).kind=1:=by
 have⟨a,⟨b1,b2⟩,c,e,f,g,i,m,n,o⟩:=aau (Jf _ default E);have:=(kc (by rw[a];rfl)).hours;exact⟨⟨⟨c,e⟩,b1,XM⟩,TX a XM o,o⟩
theorem OG (d:ai)(l:List bo)(h k:Int):fP d l h k=nJ d l h k/\l9 d l h k ((fP d l h k).map Es):=by
 have hstep:∀ j s,j< (aJ d l h k).1.length->ju d l h k j s=.inr (s++(opn d h ((aJ d l h k).1.getD j default)).toList):=λj s E=>by
  have⟨⟨⟨a,b⟩,c,e⟩,ht,_⟩:=GQ E;unfold ju opn;rw[Ew ht c e];grind
 have O:aj (ju d l h k) ((aJ d l h k).1).length 0 []=.inr (nJ d l h k):=by
  rw[Je _ default (opn d h) [] hstep];rfl
 have e:fP d l h k=nJ d l h k:=by unfold fP;rw[O]
 refine⟨e,(Mw d l h k).1,λ_=>⟨OF _ default (opn d h) [] hstep λj E=>?_,λs W=>?_⟩⟩;have⟨⟨⟨a,b⟩,c,f⟩,ht,_⟩:=GQ E;refine⟨⟨a,b⟩,λ_=>by have:=ht.every;omega,λhc=>?_⟩;rw[Ew ht c f]at hc;have V:opn d h ((aJ d l h k).1.getD j default)=some { right:=((aJ d l h k).1.getD j default).right,gl:=((aJ d l h k).1.getD j default).gl,hour:=h,bn:=((aJ d l h k).1.getD j default).bn,att:=((aJ d l h k).1.getD j default).att}:=by
  simp_all [opn]
 rw[e];unfold nJ;grind [ady]
 grind
def RB (d:ai)(f h r:Int):Bool:= !(so d f r h)
def Vw (d:ai)(f:Int):List Int:=(eO d (d.zs.getD (Int.toNat f) default).reach).reverse
def OH (d:ai)(f h:Int):Int:=((Vw d f).find? (RB d f h)).getD (-1)
def fnd (d:ai)(h:Int)(c:Claim):Y1:= { B1:=c,reach:=OH d c.gl h}
theorem MA{f:Int}(E:aB d=0)(V:0<=f)(h1:f< (d.zs.length:Int)):auB d (d.zs.getD (Int.toNat f) default).reach:=by
 have O:=kc (by rw[E];rfl);have:=O.gl f.toNat XM;exact⟨E,this.1,this.2⟩
theorem TZ{c:Claim}(O:d.bl.length<=256)(l:List Int):(dP l (cL d h) c<0/\l.find? (RB d c.gl h)=none)\/∃ j:Nat,j<l.length/\dP l (cL d h) c=(j:Int)/\l.find? (RB d c.gl h)=some (l.getD j 0):=by
 have:=zW (step:=gj l (cL d h) c) l 0 (RB d c.gl h) (λk E=>by
  grind [gj,uD,RB,ahA])
 unfold dP;grind
def Ey (d:ai)(l:List bo)(k a b:Int):List Y1:=(hrs a b).flatMap λh=>(nJ d l h k).map (fnd d h)
def wR (d:ai)(l:List bo)(k a b:Int):List Y1:=(hrs a b).flatMap λh=>(vP d l h k).map (fnd d h)
theorem adz(l:List bo)(k:Int)(s0:List Y1×Int){c:Claim}(hc:auS d s0.2 c)(s:List Y1):gn d l k s0 c s=.inr (s++[fnd d s0.2 c])/\((s.length+1)*48<=dh->iR d l k s0 c s):=by
 have X:=kc (by rw[hc.exp];rfl);have V:=MA hc.exp hc.f0 hc.f1;have E:=IY V;unfold gn iR;rw[E];simp only;rcases TZ (d:=d) (h:=s0.2) (c:=c) X.bl (eO d (d.zs.getD (Int.toNat c.gl) default).reach).reverse with⟨hi,O⟩ | ⟨j,Y,hi,O⟩;rw[decide_eq_false (show ¬_>=(0:Int) by omega)];refine⟨?_,λW=>⟨⟨hc.f0,hc.f1⟩,Bp _ _,λh=>XN,λ_=>XN⟩⟩;simp only[cond_false,fnd,OH,Vw,O,Option.getD_none];rw[hi,decide_eq_true (show(j:Int)>=0 by omega)];refine⟨?_,λW=>⟨⟨hc.f0,hc.f1⟩,Bp _ _,λ_=>⟨⟨XM,XM⟩,XN⟩,λh=>XN⟩⟩;simp only[cond_true,fnd,OH,Vw,O,Option.getD_some,aqa]
theorem T0 {d:ai}(l:List bo)(k:Int)(s0:List Y1×Int):∀ (L:List Claim) (s:List Y1),(∀ c∈L,auS d s0.2 c)->cS (gn d l k s0) L s=.inr (s++L.map (fnd d s0.2))/\((s.length+L.length)*48<=dh->okL (gn d l k s0) (iR d l k s0) L s)
 | [],s,_=>⟨by simp[cS],λ_=>trivial⟩
 |c::L,s,h=>by
  have⟨h1,h2⟩:=adz l k s0 (h c (by simp)) s;have⟨h3,h4⟩:=T0 l k s0 L (s++[fnd d s0.2 c]) λx E=>h x (by simp[E]);refine⟨?_,λO=>?_⟩;grind [cS]
  rw[aqc]at O;refine⟨h2 XM,λs' e=>?_⟩;grind
theorem Jg{fr to:Int}:(Ey d l k fr to).length<=(to+1 - fr).toNat*(600*d.bl.length):=by
 have:=xH (λh=>(nJ d l h k).map (fnd d h)) (600*d.bl.length) (hrs fr to) λh _=>by rw[aq5];exact(My d l h k).1
 rwa[Vp]at this
def Jh (d:ai)(l:List bo)(k a b:Int):(Ey d l k a b).Perm (wR d l k a b):=W0 λh _=>(BV d l h k).symm.map _
theorem OI (d:ai)(l:List bo)(k fr to:Int):(wR d l k fr to).Pairwise λx y=>fX x y<0:=by
 refine ado (ahD fr to) (λh _=>?_) λa _ b _ W x X y hy=>?_;rw[arU];exact(OE d l h k).imp λ{x y} E=>(I1 _ _).2 E;obtain⟨x',V,rfl⟩:=aq1.1 X;obtain⟨Y,O,rfl⟩:=aq1.1 hy;have h1:=(Da V).hour;have h2:=(Da O).hour;refine(I1 _ _).2 ?_;simp_all [fnd,uH,qw]
def vQ (d:ai)(a b k:Int):Prop:=(0<=a/\a<=b/\b<d.hours)/\0<=k/\k<=1048576
instance (d:ai)(fr to k:Int):Decidable (vQ d fr to k):=by unfold vQ;infer_instance
def zl (d:ai)(l:List bo)(a b k:Int):Int:=if bj d l≠0 then bj d l else if ¬vQ d a b k then 1 else if 4096< (b - a+1)*(d.bl.length:Int)then 2 else 0
theorem aay (d:ai)(fr to k:Int):(((((decide (fr<0)) ||(decide (fr > to))) ||(decide (to>=d.hours))) ||(decide (k<0))) ||(decide (k > 1048576)))= !decide (vQ d fr to k):=by
 grind [vQ]
theorem aaz{fr to:Int}(E:atq d)(h:vQ d fr to k):i64.wrap ((i64.wrap ((i64.wrap (to - fr))+1))*(d.bl.length:Int))=(to - fr+1)*(d.bl.length:Int):=by
 have⟨⟨a,b,c⟩,e,f⟩:=h;have h1:=E.hours;have h2:=E.bl;rw[ar (n:=to - fr) XM XM,ar (n:=to - fr+1) XM XM];have V:(to - fr+1)*(d.bl.length:Int)<=4096*256:=as2 XM XM XM XM;have O:0<=(to - fr+1)*(d.bl.length:Int):=arO XM XM;exact ar XM XM
theorem adA{fr to:Int}(h:vQ d fr to k)(E:¬4096< (to - fr+1)*(d.bl.length:Int)){n:Nat}(hn:n<=(to+1 - fr).toNat*(600*d.bl.length)):n<=2457600:=by
 grind [Int.mul_comm]
theorem ahJ (d:ai)(l:List bo)(fr to k:Int):ra d l fr to k/\fF d l fr to k=if zl d l fr to k=0 then(wR d l k fr to,0)else([],zl d l fr to k):=by
 unfold ra fF zl;rw[aay];by_cases hc:bj d l=0
 rw[hc];have hD:=vH hc;have X:=hD.right;by_cases E:vQ d fr to k
 rw[aaz X E];by_cases Y:4096< (to - fr+1)*(d.bl.length:Int)
 rw[decide_eq_true Y];exact⟨⟨xD d l,λ_ _ _ h=>by cases h⟩,XN⟩;have V:=Vv (step:=kp d l to k) (p:=pi d l to k) fr to (λh=>(nJ d l h k).map (fnd d h)) E.1.1 (by have:=E.1.2.2;have:=X.hours;omega) (by have:=E.1.2.1;omega)
  (λj s h h1 h2=>by
   unfold kp;rw[decide_eq_true h2,(OG d l h k).1];simp[cond_true];rw[(T0 l k (s,h) (nJ d l h k) s λc hc=>Jc hc).1])
  (λj s h h1=>by grind [kp])
  (λj h h1 h2=>by
   intro O;have O:h<=to:=of_decide_eq_true O;refine⟨(OG d l h k).2,?_⟩;rw[(OG d l h k).1];refine(T0 l k (_,h) (nJ d l h k) _ λc hc=>Jc hc).2 ?_;have h3:((hrs fr (h - 1)).flatMap λh=>(nJ d l h k).map (fnd d h)).length+(nJ d l h k).length=(Ey d l k fr h).length:=by
    unfold Ey;have:=Rm (a:=fr) (b:=h - 1) XM;grind
   have h4:(Ey d l k fr h).length<=(to+1 - fr).toNat*(600*d.bl.length):=aqp Jg (aqm _ XM);have h5:=adA E Y h4;grind [dh])
 have⟨r1,r2⟩:=V;have hS:=I2 Mo (Jh d l k fr to) (OI d l k fr to);have r2':aj (kp d l to k) 4098 0 ([],fr)=.inl (Ey d l k fr to):=r2;refine⟨⟨xD d l,λ_ _ _ _=>⟨r1,λz hz=>XN,λx hx=>?_⟩⟩,XN⟩;grind
 rw[decide_eq_false E,if_pos E];exact⟨⟨xD d l,λ_ h=>by cases h⟩,rfl⟩;have W:(bj d l !=0)=true:=XN
 rw[W];simp only[cond_true,ne_eq,hc,not_false_eq_true,if_true,if_false];exact⟨⟨xD d l,λh=>by cases h⟩,trivial⟩
def ofF (x:Y1):Option Claim:=if x.reach<0 then some x.B1 else none
def ofL (d:ai)(l:List bo)(k a b:Int):List Claim:=(wR d l k a b).filterMap ofF
def lim {α:Type}(e:Int)(l:List α):List α×Int:=if e=0 then(if 4096<l.length then([],2)else(l,0))else([],e)
theorem T3{fr to:Int}(h:zl d l fr to k=0):(wR d l k fr to).length<=2457600:=by
 rw[<-(Jh d l k fr to).length_eq];unfold zl at h;split at h
 omega;split at h
 cases h;rename_i h2;have h2:vQ d fr to k:=Classical.not_not.1 h2;split at h
 cases h;rename_i E;exact adA h2 E Jg
theorem MB (d:ai)(l:List bo)(fr to k:Int):wE d l fr to k/\aQ d l fr to k=lim (zl d l fr to k) (ofL d l k fr to):=by
 have⟨h1,h2⟩:=ahJ d l fr to k;by_cases O:zl d l fr to k=0
 rw[if_pos O]at h2;have V:=T3 O;have hstep:∀ j s,j< (wR d l k fr to).length->rb d l fr to k j s=.inr (s++(ofF ((wR d l k fr to).getD j default)).toList):=λj s W=>by
  unfold rb ofF;grind
 refine⟨⟨h1,λ_ _=>?_⟩,?_⟩;rw[h2];refine OF (wR d l k fr to) default ofF [] hstep λj W=>?_;intro _;grind [dh]
 unfold aQ lim;have E:=Je _ default ofF [] hstep;rw[h2];rw[E];show(bif decide (((ofL d l k fr to).length:Int) > 4096)then([],2)else(ofL d l k fr to,0))=_;grind
 refine⟨⟨h1,λh=>XN⟩,?_⟩;unfold aQ lim;grind
theorem Vx {α β γ:Type}(f:α->List β)(g:β->Option γ):∀ l:List α,(l.flatMap f).filterMap g=l.flatMap λa=>(f a).filterMap g
 | [] =>rfl
 |a::l=>by rw[aqx,aqx,asi,Vx f g l]
def ofH (d:ai)(l:List bo)(k h:Int):List Claim:=(vP d l h k).filterMap λc=>if OH d c.gl h<0 then some c else none
theorem ahK (d:ai)(l:List bo)(k fr to:Int):ofL d l k fr to=(hrs fr to).flatMap (ofH d l k):=by
 unfold ofL wR;rw[Vx];congr 1
 funext h
 rw[List.filterMap_map];rfl
def rg (x:Range)(a:Int):Bool:=(((decide (x.lo>=0))&&(decide (x.lo<=x.hi)))&&(decide (x.hi<=a)))
@[go_sem] def Ez:FI:=(pD .range λx=>(pI λa=>(pE (.det True (.v (.bool (rg x a)))))))
theorem Db:P0 prog 148 Ez:=fN (mG Q1 Q1) f148 [.o] (ap λx=>ax λE=>am λE=>Ko @rg.eq_1)
def sq (n a b:Int):Bool:=((decide (n>=a))&&(decide (n<=b)))
@[go_sem] def RD:FI:=(pI λn=>(pI λa=>(pI λb=>(pE (.det True (.v (.bool (sq n a b))))))))
theorem Dc:P0 prog 150 RD:=fN (mG Q1 Q1) f150 [.o] (ax λn=>ax λlo=>ax λhi=>am λE=>Ko @sq.eq_1)
def og (a:W2):Bool:=(((aX a) ==0)&&(sq a.n 0 a.d))
@[go_sem] def Ji:FI:=(pD .ratio λa=>(pE (.det True (.v (.bool (og a))))))
theorem Gg:P0 prog 220 Ji:=fN (mG (cp Dc (cp qJ Q1)) Q1) f220 [.o] (ap λa=>am λE=>Ko @og.eq_1)
def ku (a:W2×W2):Bool:=(bif((!(og a.1)) ||(!(og a.2)))then false else(((iA a.1 a.2).2==0)&&(decide ((iA a.1 a.2).1<=0))))
@[go_sem] def Gh:FI:=(pD .at6 λa=>(pE (.det True (.v (.bool (ku a))))))
theorem EA:P0 prog 149 Gh:=fN (mG (cp Gg (cp CT Q1)) Q1) f149 [.o] (ap λa=>am λE=>Ko @ku.eq_1)
def gC (r:Reach)(n:Int):Int:=(bif((!(rg r.at5 1073741824)) ||(!(ku r.atL)))then 210 else(bif(!(sq n 0 1073741824))then 1 else 0))
@[go_sem] def Jj:FI:=(pD .reach λr=>(pI λn=>(pE (.det True (.i (gC r n))))))
theorem y3:P0 prog 92 Jj:=fN (mG (cp Db (cp EA (cp Dc Q1))) Q1) f92 [.o] (ap λr=>ax λn=>am λE=>Ko @gC.eq_1)
def gh (r:Reach)(v:Int):Range:=letI a:=i64.wrap (r.at5.hi+(eF r.atL.2 v).2.1);letI b:=i64.wrap (r.at5.lo+(eF r.atL.1 v).1);(bif(v==0)then({ lo:=0,hi:=0}:Range)else({ lo:=(if b<v then b else v),hi:=(if a<v then a else v)}:Range))
@[go_sem] def Ld:FI:=(pD .reach λr=>(pI λv=>(pE (.det True (.agg (cellsOf .range (gh r v)))))))
theorem z6:P0 prog 93 Ld:=fN (mG (cp zP Q1) Q1) f93 [.st .range] (ap λr=>ax λv=>am λE=>Ko @gh.eq_1)
def jc (r:Reach)(v:Int):Int×Int:=(bif((gC r v) !=0)then(0,(gC r v))else((i64.wrap (v - (gh r v).hi)),0))
@[go_sem] def Jk:FI:=(pD .reach λr=>(pI λv=>(pE (.det True (.tup [.i ((jc r v).1),.i ((jc r v).2)])))))
theorem y4:P0 prog 52 Jk:=fN (mG (cp y3 (cp z6 Q1)) Q1) f52 [.o,.o] (ap λr=>ax λv=>am λE=>Ko @jc.eq_1)
def s6 (v:Int)(r:Reach):Int:=(i64.wrap (v - (gh r v).hi))
@[go_sem] def Gi:FI:=(pI λv=>(pX .reach λr=>(pE (.det True (.i (s6 v r))))))
theorem EB:P0 prog 139 Gi:=fN (mG (cp z6 Q1) Q1) f139 [.o] (ax λv=>gO λr=>am λE=>Ko @s6.eq_1)
def fQ (v:Int)(r:Reach)(w:Int):Bool:=(decide ((s6 v r) > w))
@[go_sem] def EC:FI:=(pI λv=>(pXF 139 (pX .reach λr=>(pE ((pX .int λw=>(pE (.det True (.v (.bool (fQ v r w)))))))))))
theorem Dd:P0 prog 210 EC:=by
 have hG:=mG (cp EB Q1) Q1;refine fN hG f210 [.o] (ax λv=>(CN (gO λr=>(am ((gO λw=>(am (λE=>?_))))))));dsimp only[an]at E;refine⟨nbl rfl,L0,ag _,?_⟩;exact Ce @fQ.eq_1
@[go_sem] def kX (r:Reach)(w:Int)(c:Nat)(a:Int×Int):Int⊕(Int×Int):=letI b:=i64.wrap (oy .u64 (u64.wrap (i64.wrap (a.1+a.2))) 1);(bif(decide (a.1<a.2))then(bif(!(fQ b r w))then .inr ((i64.wrap (b+1)),a.2)else .inr (a.1,b))else .inl a.1)
def wF (n:Int)(r:Reach)(w:Int):Int:=(match aj (kX r w) 64 0 (0,n)with| .inl a=>a| .inr b=>default)
def s7 (n:Int)(r:Reach)(w:Int):Prop:=(∀ z_,aj (kX r w) 64 0 (0,n)≠ .inr z_)
@[go_sem] def Le:FI:=(pI λn=>(pFn 210 (pXF 139 (pX .reach λr=>(pE ((pX .int λw=>(pE ((pE (.det (s7 n r w) (.i (wF n r w)))))))))))))
theorem Jl:P0 prog 209 Le:=by
 have hG:=mG (cp Dd Q1) Q1;refine fN hG f209 [.o] (ax λn=>(qH (CN (gO λr=>(am ((gO λw=>(am ((am (λW=>?_)))))))))));dsimp only[an,s7]at W;refine⟨nbl rfl,(XO 0 (LCV (ρ:=Int) (σ:=(Int×Int)) 0 [] [] (λV O=>⟨[(1,.fn 210 [] [.ep [.fn 139 [] [.ep (cellsOf .reach r) 0]] 0,.ep [.i w] 0]),(5,.i O.1),(6,.i O.2)],[]⟩) (kX r w) pT 64 (0,n) (λ_=>.normal) (λE=>⟨[(5,.i E)],[]⟩)) L0),?_,?_⟩;unfold aa f209;simp only[ak,true_and,and_true];refine dH aC hG (λ_=>rfl) λV O _=>⟨L0,ag _,?_⟩;exact cD (jl []);exact Ce @wF.eq_1
def d6 (w:Int)(r:Reach):Int:=(wF 1073741825 r w)
def vR (w:Int)(r:Reach):Prop:=(s7 1073741825 r w)
@[go_sem] def Jm:FI:=(pI λw=>(pFn 139 (pX .reach λr=>(pE ((pE (.det (vR w r) (.i (d6 w r)))))))))
theorem Gj:P0 prog 138 Jm:=by
 have hG:=mG (cp Jl Q1) Q1;refine fN hG f138 [.o] (ax λw=>(qH (gO λr=>(am ((am (λE=>?_)))))));dsimp only[an,vR]at E;refine⟨nbl rfl,L0,ag _,?_⟩;exact Ce @d6.eq_1
def dV (r:Reach)(w:Int):Int×Bool×Int:=(bif((gC r w) !=0)then(0,false,(gC r w))else(bif(decide ((d6 (i64.wrap (w - 1)) r) > 1073741824))then(0,false,0)else((d6 (i64.wrap (w - 1)) r),true,0)))
def mw (r:Reach)(w:Int):Prop:=(((gC r w) !=0)=false->(vR (i64.wrap (w - 1)) r))
@[go_sem] def Br:FI:=(pD .reach λr=>(pI λw=>(pE (.det (mw r w) (.tup [.i ((dV r w).1),.v (.bool ((dV r w).2.1)),.i ((dV r w).2.2)])))))
theorem vS:P0 prog 84 Br:=fN (mG (cp y3 (cp Gj Q1)) Q1) f84 [.o,.o,.o] (ap λr=>ax λw=>am λE=>Pq @dV.eq_1 @mw.eq_1)
def aw (x:Reach)(w:Int):Int×Bool:=(bif((w==0) ||(decide (w > 1073741824)))then(0,(w==0))else(bif(!(dV x w).2.1)then(0,false)else((if(dV x w).1<x.atz then x.atz else(dV x w).1),true)))
def oh (x:Reach)(w:Int):Prop:=(((w==0) ||(decide (w > 1073741824)))=false->(mw x w))
@[go_sem] def ED:FI:=(pD .reach λx=>(pI λw=>(pE (.det (oh x w) (.tup [.i ((aw x w).1),.v (.bool ((aw x w).2))])))))
theorem De:P0 prog 170 ED:=fN (mG (cp vS Q1) Q1) f170 [.o,.o] (ap λx=>ax λw=>am λE=>Pq @aw.eq_1 @oh.eq_1)
abbrev sr:SV:=.ls 1 [.fn 248 [] [],.fn 249 [] [],.fn 250 [] []]
open Classical in
noncomputable def uI:FI:=λl=>if l=[sr]then some (.det True (.fn 298 [] [.ep [sr] 0]))else none
theorem Lf:P0 prog 247 uI:=by
 have hG:atj prog (mkG [] []):=qF (by simp) (by simp);refine DZ [.o] mixed aC hG (fn:=f247) (c:=aa f247) kr kr kr kr λl O h V=>?_;unfold uI at h;split at h
 rename_i E;subst E;cases h;refine⟨nbl rfl,L0,by simp_all [aa,f247,ak],?_⟩;unfold aa f247;simp[go_sem];rfl;cases h
def gD:FI:=pE (.det True (.fn 298 [] [.ep [sr] 0]))
theorem vT:P0 prog 172 gD:=by
 have hG:atj prog (mkG [(247,uI)] []):=qF (by
  intro x E;simp[aqg,aq_,or_false]at E;rcases E with rfl;exact Lf) (by simp)
 refine DZ [.o] mixed aC hG (fn:=f172) (c:=aa f172) kr kr kr kr λl O h V=>?_;unfold gD at h;obtain⟨rfl,rfl⟩:=zH h;refine⟨nbl rfl,L0,by simp_all [aa,f172,ak],?_⟩;unfold aa f172;simp only[go_sem,uI,sr,true_imp_iff,Nat.reduceBEq,Nat.reduceLeDiff,Nat.reduceAdd,Nat.reduceSub,Nat.reduceMul,true_and,and_true,implies_true,aqZ,aq4,if_true];rfl
def vU (k:Nat)(x:Order):Int:=match k with|0=>qK x|1=>vC x|_=>qL x
def AI (a b:Order):Nat->Unit->Int⊕Unit:=λk _=>bif(bv (vU k a) (vU k b) !=0)then .inl (bv (vU k a) (vU k b))else .inr ()
def aM (a b:Order):Int:=match aj (AI a b) 3 0 ()with| .inl x=>x| .inr _=>0
open Classical in
noncomputable def nK:FI:=pD .order λa=>pD .order λb=>λl=>if l=[.ep [sr] 0]then some (.det True (.i (aM a b)))else none
theorem y5:P0 prog 298 nK:=by
 have hG:atj prog (mkG [(82,qI),(248,oz),(249,rZ),(250,oA)] []):=qF (by
  intro x hx;simp[aqg,aq_,or_false]at hx;rcases hx with rfl|rfl|rfl|rfl;exact fg;exact zN;exact CV;exact zO) (by simp)
 refine DZ [.o] mixed aC hG (fn:=f298) (c:=aa f298) kr kr kr kr λl con h hp=>?_;unfold nK at h;obtain⟨a,l0,rfl,h0⟩:=NO h;obtain⟨b,l1,rfl,h1⟩:=NO h0;split at h1
 rotate_left
 cases h1;rename_i hl;subst hl;cases h1;clear h h0;obtain⟨ah,V,W,Y⟩:=a;obtain⟨bh,O,X,E⟩:=b;refine⟨nbl rfl,(XO 0 (λst=>LC (ρ:=Int) (σ:=Unit) (lk 3 st.t=.ptr 0 0/\lk 4 st.t=.ptr 1 0/\lk 9 st.t=sr/\lk 10 st.t=.i 3/\lk 11 st.t=.i 0/\st.h=[.cells (cellsOf .order ⟨ah,V,W,Y⟩),.cells (cellsOf .order ⟨bh,O,X,E⟩)]) (aj (AI ⟨ah,V,W,Y⟩ ⟨bh,O,X,E⟩) 3 0 ()) (λ_=>.ret) (λx=>⟨[(5,.i x)],[.dead,.dead]⟩) (λ_=>⟨[],[.dead,.dead]⟩)) L0),?_,?_⟩
 ·unfold aa f298;simp only[ak,true_and,and_true];refine DY mixed aC hG kr λst lc hC hp=>?_;simp only[go_sem,aqd]at hC;subst hC;have⟨t,h⟩:=st;obtain⟨e1,e2,e3,e4,e5,rfl⟩:=hp;refine⟨_,_,_,AI ⟨ah,V,W,Y⟩ ⟨bh,O,X,E⟩,λ_ _=>True,3,(),_,_,_,(λk _=>⟨[(3,.ptr 0 0),(4,.ptr 1 0),(9,sr),(10,.i 3),(11,.i (k:Int))],[.cells (cellsOf .order ⟨ah,V,W,Y⟩),.cells (cellsOf .order ⟨bh,O,X,E⟩)]⟩),[0,1],rfl,eu _ _ _ λ_ _ _ _=>trivial,aqb _,?_,λk s hk hpk=>⟨L0,?_,?_⟩⟩;simp[go_sem];grind
  simp[ak,and_true]
  ·have hk4:k=0\/k=1\/k=2\/k=3:=XM
   rcases hk4 with rfl|rfl|rfl|rfl;all_goals
    simp only[go_sem,qI,oz,rZ,oA,sr,AI,vU,true_imp_iff,false_imp_iff,aqy,aqa,as3,Nat.reduceBEq,Nat.reduceLeDiff,Nat.reduceAdd,Nat.reduceSub,Nat.reduceMul,Nat.reduceLT,Int.reduceLE,Int.reduceLT,Int.reduceToNat,Int.reduceNeg,true_and,and_true,and_self,implies_true,forall_const,reduceCtorEq,atd]
   all_goals (first|done|(repeat' (first|with_reducible refine And.intro ?_ ?_|((with_reducible show _≠_);first|assumption|omega|(simp_all;done) |grind) |with_reducible intro _)) <;>(first|done|assumption|rfl|omega|decide|(simp only[*,cond_true,cond_false,go_sem,true_imp_iff,false_imp_iff,aqy,aqa,as3,Nat.reduceBEq,Nat.reduceLeDiff,Nat.reduceAdd,Nat.reduceSub,Nat.reduceMul,Int.reduceLE,Int.reduceLT,Int.reduceToNat,Int.reduceNeg,true_and,and_true,and_self,implies_true,forall_const,reduceCtorEq];done) |(simp only[*,cond_true,cond_false,go_sem,true_imp_iff,false_imp_iff,aqy,aqa,as3,Nat.reduceBEq,Nat.reduceLeDiff,Nat.reduceAdd,Nat.reduceSub,Nat.reduceMul,Int.reduceLE,Int.reduceLT,Int.reduceToNat,Int.reduceNeg,true_and,and_true,and_self,implies_true,forall_const,reduceCtorEq];(repeat' (first|with_reducible refine And.intro ?_ ?_|((with_reducible show _≠_);first|assumption|omega|(simp_all;done) |grind) |with_reducible intro _)) <;>(first|done|assumption|rfl|omega|decide))))
   all_goals trace_state
 unfold aa f298;unfold aM;simp[go_sem];grind
attribute [go_sem] gD nK
@[go_sem] def fu (b:ai)(d:List Order)(c:Nat)(k:Unit):Unit⊕Unit:=letI a:=d.getD c default;letI e:=(decide ((c:Int) > 0))&&(decide ((aM (d.getD (Int.toNat (i64.wrap ((c:Int) - 1))) default) a)>=0));letI f:=decide (a.bn > 1073741824);letI g:=decide (a.hour>=b.hours);letI h:=decide (a.bn<1);letI i:=decide (a.index<0);letI j:=decide (a.hour<0);(bif a.S2 then(bif((((((j||g) ||i) ||(decide (a.index>=(b.zs.length:Int)))) ||h) ||f) ||e)then .inl ()else .inr ())else(bif((((((j||g) ||i) ||(decide (a.index>=(b.reaches.length:Int)))) ||h) ||f) ||e)then .inl ()else .inr ()))
def lJ (b:ai)(d:List Order)(c:Nat)(l:Unit):Prop:=letI a:=d.getD c default;letI e:=i64.wrap ((c:Int) - 1);letI f:=(decide ((c:Int) > 0))=true->(0<=e/\e< (d.length:Int));letI g:=decide (a.bn > 1073741824);letI h:=decide (a.hour>=b.hours);letI i:=decide (a.bn<1);letI j:=decide (a.index<0);letI k:=decide (a.hour<0);(b.reaches.length<=aD->((a.S2=true->(b.zs.length<=aD->((((((k||h) ||j) ||(decide (a.index>=(b.zs.length:Int)))) ||i) ||g)=false->f)))/\(a.S2=false->((((((k||h) ||j) ||(decide (a.index>=(b.reaches.length:Int)))) ||i) ||g)=false->f))))
def cN (a:ai)(b:List Order):Int:=(bif((aB a) !=0)then(aB a)else(bif(decide ((b.length:Int) > 4096))then 2 else(match aj (fu a b) b.length 0 ()with| .inl c=>220| .inr d=>0)))
def pj (b:ai)(a:List Order):Prop:=(((aB b) !=0)=false->(a.length<=aD->((decide ((a.length:Int) > 4096))=false->(a.length<=aD->okI (fu b a) (lJ b a) a.length 0 ()))))
@[go_sem] def Gk:FI:=(pD .al λa=>(pR .order λb=>(pE (.det (pj a b) (.i (cN a b))))))
theorem amx {p:Prop}(h:p:=by simp only[go_sem,gD,nK,if_true];all_goals exact cl):p:=h
theorem EE:P0 prog 177 Gk:=by
 have hG:=mG (cn [.st .al] pd (cp vT (cp y5 Q1))) Q1;refine fN hG f177 [.o] (ap λa0=>(aZ λa1=>(am (λX=>?_))));dsimp only[an,pj]at X;refine⟨nbl rfl,(XO 0 (LCR (ρ:=Unit) (σ:=Unit) 1 [] [0] (λE O=>⟨[(1,.rs .order a1),(2,.ptr 0 0),(5,.fn 298 [] [.ep [.ls 1 [.fn 248 [] [],.fn 249 [] [],.fn 250 [] []]] 0]),(18,.rs .order a1),(19,.i (a1.length:Int)),(20,.i E)],[.cells (cellsOf .al a0)]⟩) (fu a0 a1) (lJ a0 a1) a1.length () (a1.length<=aD) (λ_=>.ret) (λW=>⟨[(4,.i 220)],[.dead]⟩)) L0),?_,?_⟩;unfold aa f177;simp only[ak,true_and,and_true];refine bG aC hG (λ_=>rfl) (a1.length:Int) eE (λhb0 E O Y V hw hc=>⟨L0,ag _,?_⟩) (λhb0 O hc=>?_);simp only[lJ,hw,aqa]at V
 exact aW (jl [0]);exact aV (jl [0]);unfold aa f177;try unfold cN
 exact amx
def cU (d:ai)(a:List Order):Int:=(bif(((cN d a) ==0)&&(decide ((i64.wrap ((d.reaches.length:Int)*d.hours)) > 1024)))then 2 else(cN d a))
def oi (d:ai)(a:List Order):Prop:=(pj d a)
@[go_sem] def EF:FI:=(pD .al λd=>(pR .order λa=>(pE (.det (oi d a) (.i (cU d a))))))
theorem Df:P0 prog 167 EF:=fN (mG (cn [.st .al,.sl .order] EE Q1) Q1) f167 [.o] (ap λd=>aZ λO=>am λE=>Pq @cU.eq_1 @oi.eq_1)
def A4 (a:Order):Int:=bif a.S2 then 1 else 0
def olt (a b:Order):Prop:=a.hour<b.hour\/a.hour=b.hour/\(A4 a<A4 b\/A4 a=A4 b/\a.index<b.index)
theorem Xc {a b:Order}(h:aM a b<0):olt a b:=by
 unfold aM at h;unfold olt;have O:∀ x,vU 0 x=x.hour:=λ_=>rfl;have E:∀ x,vU 1 x=A4 x:=λ_=>rfl;have k2:∀ x,vU 2 x=x.index:=λ_=>rfl;simp[aj,AI,ka]at h;grind
theorem MC {a b c:Order}(h1:olt a b)(h2:olt b c):olt a c:=by
 grind [olt]
theorem MD (a b:Order):aM a b<0↔olt a b:=by
 unfold aM;have O:∀ x,vU 0 x=x.hour:=λ_=>rfl;have E:∀ x,vU 1 x=A4 x:=λ_=>rfl;have k2:∀ x,vU 2 x=x.index:=λ_=>rfl;simp[aj,AI,ka];grind [olt]
open Go.Shelf Go.Sort in
theorem yx:SWO (ltOf aM):=by
 have e:∀ x y,ltOf aM x y=true↔olt x y:=λx y=>by unfold ltOf;rw[decide_eq_true_eq,MD]
 have e':∀ x y,ltOf aM x y=false↔¬olt x y:=λx y=>XN
 refine⟨λx=>(e' x x).2 (by unfold olt;omega),λx y z h1 h2=>(e x z).2 (MC ((e x y).1 h1) ((e y z).1 h2)),λx y z h1 h2=>(e' x z).2 ?_⟩;grind [olt]
structure au3 (d:ai)(x:Order):Prop where
 au6:0<=x.hour
 hour:x.hour<d.hours
 auM:0<=x.index
 gl:x.S2=true->x.index< (d.zs.length:Int)
 reach:x.S2=false->x.index< (d.reaches.length:Int)
 aut:1<=x.bn
 bn:x.bn<=1073741824
theorem T4 (d:ai)(l:List Order):pj d l:=λ_ h1 _ _=>eu _ _ _ λj s h2 E=>by
 unfold lJ;have e:decide ((j:Int) > 0)=true->(0<=i64.wrap ((j:Int) - 1)/\i64.wrap ((j:Int) - 1) < (l.length:Int)):=λh=>by
  grind [oc]
 grind
structure atC (d:ai)(l:List Order):Prop where
 right:atq d
 len:l.length<=4096
 one:∀ k,k<l.length->au3 d (l.getD k default)
 asc:∀ k,k+1<l.length->aM (l.getD k default) (l.getD (k+1) default) <0
variable {d:ai}{l:List Order}
theorem Jn(h:(cN d l !=0)=false):atC d l:=by
 unfold cN at h;cases h1:aB d !=0 with
 |true=>grind
 |false=>
  rw[h1]at h;cases h2:decide ((l.length:Int) > 4096)with
  |true=>grind
  |false=>
   rw[h2]at h;have W:l.length<=4096:=XN
   split at h
   cases h;rename_i s V;have key:∀ k,k<l.length->au3 d (l.getD k default)/\(0<k->aM (l.getD (k - 1) default) (l.getD k default) <0):=by
    intro k E;have:=oa V k XM XM;have Y:((k:Int) > 0)->(i64.wrap ((k:Int) - 1)).toNat=k - 1:=λh=>by
     grind [oc]
    unfold fu at this;generalize X:l.getD k default=x at this |-;cases O:x.S2 with
    |true=>
     rw[O]at this;simp[cond_true]at this;rw[aqV]at this;split at this
     cases this;rename_i hc;simp[arN,aqt,decide_eq_false_iff_not]at hc;refine⟨⟨XM,XM,XM,λ_=>XM,λh=>XN,XM,XM⟩,λhk0=>?_⟩;grind
    |false=>
     rw[O]at this;simp[cond_false]at this;rw[aqV]at this;split at this
     cases this;rename_i hc;simp[arN,aqt,decide_eq_false_iff_not]at hc;refine⟨⟨XM,XM,XM,λh=>XN,λ_=>XM,XM,XM⟩,λhk0=>?_⟩;grind
   exact⟨kc h1,W,λk E=>(key k E).1,λk E=>(key (k+1) E).2 XM⟩
structure ave (i:Int)(x:Reach):Prop where
 up:x.up<i
 auT:1<=x.delay
 delay:x.delay<=16
 awh:0<=x.atz
 atz:x.atz<=x.cap
 cap:x.cap<=1073741824
 at2:x.atz<=x.at2
 awO:x.at2<=1099511627776
theorem ME {i:Int}{x:Reach}(hi:0<=i)(h:be i x=true):ave i x:=by
 unfold be at h;cases hd:decide (i > 0)with
 |true=>
  rw[hd]at h;simp[cond_true,ap9,cK,decide_eq_true_eq]at h hd;have⟨⟨⟨⟨⟨h0,h1⟩,h2⟩,h3⟩,h4⟩,h5⟩:=h;have:=yk h1;have:=sP h2;have:=sP h3;constructor <;>omega
 |false=>
  rw[hd]at h;simp[cond_false,ap9,beq_iff_eq]at h hd;have⟨⟨⟨⟨⟨h0,h1⟩,h2⟩,h3⟩,h4⟩,h5⟩:=h;have:=yk h1;have:=sP h2;have:=sP h3;constructor <;>omega
theorem atq.auU(h:atq d){k:Nat}(E:k<d.reaches.length):ave k (d.reaches.getD k default):=ME XM (h.reach k E)
theorem atq.avb(h:atq d){i:Int}(E:0<=i)(hi:i< (d.reaches.length:Int)):ave i (d.reaches.getD i.toNat default):=by
 have:=h.auU (k:=i.toNat) XM;grind
theorem wS (d:ai)(l:List Order):cN d l=0↔aB d=0/\l.length<=4096/\∀ k,k<l.length->fu d l k ()=.inr ():=by
 unfold cN;cases h1:(aB d !=0)with
 |true=>grind
 |false=>
  grind [gf]
theorem atC.lt(h:atC d l):∀ (k j:Nat),j<k->k<l.length->olt (l.getD j default) (l.getD k default)
 |k+1,j,h1,h2=>by
  have E:=Xc (h.asc k XM);by_cases e:j=k
  grind
  exact MC (h.lt k j XM XM) E
def fS (p:Order->Bool):List Order->Int
 | [] =>0|x::r=>(bif p x then x.bn else 0)+fS p r
theorem xI (p:Order->Bool)(a b:List Order):fS p (a++b)=fS p a+fS p b:=by
 induction a with
 |nil=>simp[fS]|cons x r E=>grind [fS]
variable {p:Order->Bool}
theorem su(h:∀ x∈l,1<=x.bn/\x.bn<=1073741824):0<=fS p l/\fS p l<=l.length*1073741824:=by
 induction l with
 |nil=>simp[fS]
 |cons x r O=>
  have h1:=O λa E=>h a (aqj _ E);simp[fS];grind
theorem oj(h:∀ x∈l,p x=false):fS p l=0:=by
 induction l with
 |nil=>rfl
 |cons x r E=>
  grind [fS]
variable {q:Order->Bool}
theorem Jo(h:∀ x∈l,p x=q x):fS p l=fS q l:=by
 induction l with
 |nil=>rfl
 |cons x r E=>
  grind [fS]
theorem RE{r:Order->Bool}(h:∀ x∈l,(r x=(p x||q x))/\(p x&&q x)=false):fS p l+fS q l=fS r l:=by
 induction l with
 |nil=>rfl
 |cons x t E=>
  simp[fS];grind
variable {j:Nat}
theorem aaA(O:j<l.length)(h:p l[j]=true)(hn:∀ i (hi:i<l.length),i≠j->p l[i]=false):fS p l=l[j].bn:=by
 have e:l=l.take j++l[j]::l.drop (j+1):=by simp_all
 conv=>lhs;rw[e,xI]
 rw[oj λx E=>?_];simp[fS,h,cond_true];rw[oj λx E=>?_];omega;obtain⟨i,hi,rfl⟩:=aqw E;grind
 obtain⟨i,hi,rfl⟩:=aqw E;grind
theorem atC.lit(h:atC d l):∀ x∈l,1<=x.bn/\x.bn<=1073741824:=λx O=>by
 obtain⟨k,E,rfl⟩:=aqw O;have:=h.one k E;rw[ib _ _ E]at this;exact⟨this.aut,this.bn⟩
theorem atC.uniq(h:atC d l){i:Nat}(hi:i<l.length)(hj:j<l.length)(X:l[i].hour=l[j].hour)(W:l[i].index=l[j].index)(Y:l[i].S2=l[j].S2):i=j:=by
 have key:∀ a b (V:a<l.length) (O:b<l.length),a<b->l[a].hour=l[b].hour->l[a].index=l[b].index->l[a].S2=l[b].S2->False:=λa b V O E X W Y=>by
  have:=h.lt b a E O;grind [olt,A4]
 grind
theorem xJ(E:j<l.length):fS p (l.take (j+1))=fS p (l.take j)+(bif p l[j]then l[j].bn else 0):=by
 rw[aqD E,xI];simp[fS]
theorem BW {κ υ:Type}[DecidableEq κ]:∀ (l:List (κ×υ)) (x:κ) (y:υ),(v9 l x y).map Prod.fst=if x∈l.map Prod.fst then l.map Prod.fst else l.map Prod.fst++[x]
 | [],x,y=>by simp[v9]
 |(a,b)::r,x,y=>by
  unfold v9;by_cases h:x=a
  subst h;simp;rw[if_neg h,aqZ,BW r x y];grind
theorem RG {κ υ:Type}[DecidableEq κ]:∀ (l:List (κ×υ)) (e:κ×υ),(l.map Prod.fst).Nodup->e∈l->i6 l e.1=some e.2
 |(a,b)::r,e,hn,he=>by
  simp only[aqZ,aqQ]at hn;unfold i6;rcases aqg.1 he with rfl|he;simp;have:e.1≠a:=λh=>hn.1 (h▸arI he);rw[if_neg this];exact RG r e hn.2 he
theorem AJ {α:Type}(l:List α)(d:α){k:Nat}(h:k<l.length):l.getD k d∈l:=by
 grind
theorem Jp {n d:Int}(hd:1<=d)(V:d<=1073741824)(h1: -1152921504606846976<=n)(h2:n<=1152921504606846976):nc n d=n / d:=by
 unfold nc;have E:Int.tmod (Int.tmod n d+d) d=n % d:=by
  have a1: -d<Int.tmod n d:=ar9 n XM;rw[arA XM];rw[asM];split
  simp_all;have:n % d - (d.natAbs:Int)=n % d+d*(-1):=XM
  simp_all
 have a1: -d<Int.tmod n d:=ar9 n XM;have X:Int.tmod n d<d:=atb n XM;rw[ar (by omega: -9223372036854775808<=Int.tmod n d+d) XM,E];have Y:=arF n (by omega:d≠0);have W:=arq n (by omega:0<d);rw[ar (by omega: -9223372036854775808<=n - n % d) XM];have O:n - n % d=d*(n / d):=by have:=arC n d;omega
 rw[O,asD _ XM];have c1:n / d<=1152921504606846976:=by
  have:=ars (by omega:0<d) h2;have:=asn (b:=d) (by omega:(0:Int)<=1152921504606846976);omega
 have c2: -1152921504606846976<=n / d:=by
  rw[arb XM];omega
 exact ar XM XM
structure Rat (a:W2):Prop where
 d1:1<=a.d
 d:a.d<=1073741824
 n0: -1073741824<=a.n
 n:a.n<=1073741824
theorem aaB {a:W2}(h:aX a=0):Rat a:=by
 unfold aX at h;rw[aqV]at h;split at h
 cases h;rename_i h1;simp[aqG,decide_eq_true_eq]at h1;constructor <;>omega
theorem yy {i:Int}{x:Reach}(h:be i x=true):j7 x.atL=true/\0<=x.at5.lo/\x.at5.lo<=x.at5.hi/\x.at5.hi<=1073741824:=by
 unfold be at h;cases hd:decide (i > 0) <;>rw[hd]at h <;>simp only[cond_true,cond_false,ap9]at h;all_goals
  have E:=sP h.1.2;exact⟨h.2,E.1,E.2.1,E.2.2⟩
theorem aaC {a b:Int}(E: -1073741824<=a)(h1:a<=1073741824)(h2:0<=b)(W:b<=1073741824): -1152921504606846976<=a*b/\a*b<=1152921504606846976:=by
 have V:=aq3 E h2;have O:=aq3 h1 h2;omega
structure avM (x:W2×W2):Prop where
 r1:Rat x.1
 r2:Rat x.2
 c1:aX x.1=0
 c2:aX x.2=0
 cmp:iA x.1 x.2=((iA x.1 x.2).1,0)/\(iA x.1 x.2).1<=0
 le:x.1.n*x.2.d<=x.2.n*x.1.d
 n1:0<=x.1.n
 n2:x.2.n<=x.2.d
 m1:x.1.n<=x.1.d
 m2:0<=x.2.n
variable {x:W2×W2}
theorem GS(h:j7 x=true):avM x:=by
 unfold j7 at h;simp[ap9,beq_iff_eq,decide_eq_true_eq]at h;have⟨⟨⟨h1,h2⟩,h3⟩,h4⟩:=h;have hc:aX x.1=0/\aX x.2=0:=by
  unfold iA at h1;grind
 have O:=aaB hc.1;have E:=aaB hc.2;have b1:=aaC O.n0 O.n (by have:=E.d1;omega) E.d;have Y:=aaC E.n0 E.n (by have:=O.d1;omega) O.d;have V:x.1.n*x.2.d<=x.2.n*x.1.d:=by
  unfold iA at h3;grind [ar,ka]
 have e1:=O.d1;have e2:=E.d1;have m1:x.1.n<=x.1.d:=by
  have:=aq3 h4 (by omega:0<=x.1.d);have W:x.1.n*x.2.d<=x.1.d*x.2.d:=XN
  exact asy W XM
 have X:0<=x.2.n:=by
  have:=arO h2 (by omega:0<=x.2.d);have W:0*x.1.d<=x.2.n*x.1.d:=XM
  exact asy W XM
 exact⟨O,E,hc.1,hc.2,⟨by rw[<-h1],h3⟩,V,h2,h4,m1,X⟩
theorem MF(h:avM x):ku x=true:=by
 unfold ku og sq;have:=h.n1;have:=h.n2;have:=h.m1;have:=h.m2;rw[h.c1,h.c2,decide_eq_true (by omega:x.1.n>=0),decide_eq_true (by omega:x.1.n<=x.1.d),decide_eq_true (by omega:x.2.n>=0),decide_eq_true (by omega:x.2.n<=x.2.d)];have h2:=congrArg Prod.snd h.cmp.1;rw[h2,decide_eq_true h.cmp.2];rfl
variable {v:Int}
theorem Jq{a:W2}(h:Rat a)(hc:aX a=0)(O:0<=a.n)(E:0<=v)(X:v<=1073741824):(eF a v).1=a.n*v / a.d/\(eF a v).2.1= -(-(a.n*v) / a.d)/\ -(-(a.n*v) / a.d)<=1152921504606846976/\0<= -(-(a.n*v) / a.d):=by
 have:=h.d1;have:=h.n;have hm:=aaC XM h.n E X;have V:=arO O E;unfold eF;rw[ar (by omega: -9223372036854775808<=0 - a.n) XM];have W:(0 - a.n)*v= -(a.n*v):=XN
 rw[W,ar (by omega: -9223372036854775808<= -(a.n*v)) XM,ar (by omega: -9223372036854775808<=a.n*v) XM];rw[Jp h.d1 h.d XM XM,Jp h.d1 h.d XM XM];have c1: -1152921504606846976<= -(a.n*v) / a.d:=by
  rw[arb XM];omega
 have Y: -(a.n*v) / a.d<=0:=by
  have:=ars (by omega:0<a.d) (by omega: -(a.n*v)<=0);simp_all
 grind [ar]
variable {x:Reach}
theorem AK{i:Int}(h:be i x=true)(O:0<=v)(X:v<=1073741824):gC x v=0/\0<=(gh x v).lo/\(gh x v).lo<=(gh x v).hi/\(gh x v).hi<=v:=by
 have⟨h1,h2,h3,h4⟩:=yy h;have E:=GS h1;refine⟨?_,?_⟩;grind [gC,rg,sq,MF]
 unfold gh;cases hv:(v==0)with
 |true=>
  grind
 |false=>
  have⟨a1,_,_,_⟩:=Jq E.r1 E.c1 E.n1 O X;have⟨_,b1,b2,b3⟩:=Jq E.r2 E.c2 E.m2 O X;rw[a1,b1];have d1:=E.r1.d1;have d2:=E.r2.d1;have Y:0<=x.atL.1.n*v / x.atL.1.d:=Int.ediv_nonneg (arO E.n1 O) XM;have V:x.atL.1.n*v / x.atL.1.d*x.atL.1.d<=x.atL.1.n*v:=Int.ediv_mul_le _ XM;have W: -(x.atL.2.n*v) / x.atL.2.d*x.atL.2.d<= -(x.atL.2.n*v):=Int.ediv_mul_le _ XM;generalize x.atL.1.n*v / x.atL.1.d=P at Y V;generalize -(x.atL.2.n*v) / x.atL.2.d=Q at b2 b3 W;have PQ:P<= -Q:=by
   have e1:=aq3 V (by omega:0<=x.atL.2.d);have e2:=aq3 E.le O;have e3:=aq3 W (by omega:0<=x.atL.1.d);have hh:P*(x.atL.1.d*x.atL.2.d)<= -Q*(x.atL.1.d*x.atL.2.d):=by
    grind
   have hp:0<x.atL.1.d*x.atL.2.d:=Int.mul_pos XM XM;simp_all
  grind [ar]
def wst (x:Reach)(v:Int):Int:=v - (gh x v).hi
theorem yz{i:Int}(h:be i x=true)(E:0<=v)(O:v<=1073741824):jc x v=(wst x v,0):=by
 have⟨e,h1,h2,h3⟩:=AK h E O;grind [jc,wst,ar]
theorem aaD{i:Int}(h:be i x=true)(V:0<=v)(W:v<=1073741824):wst x v=max 0 ((x.atL.2.d - x.atL.2.n)*v / x.atL.2.d - x.at5.hi):=by
 have⟨g1,g2,g3,g4⟩:=yy h;have E:=GS g1;have d1:=E.r2.d1;have X:(x.atL.2.d - x.atL.2.n)*v / x.atL.2.d=v+ -(x.atL.2.n*v) / x.atL.2.d:=by
  grind [Int.add_mul_ediv_left]
 unfold wst gh;cases O:(v==0)with
 |true=>
  simp[beq_iff_eq]at O;subst O;simp[cond_true,Int.mul_zero,Int.neg_zero,Int.zero_ediv];omega
 |false=>
  have⟨_,b1,b2,b3⟩:=Jq E.r2 E.c2 E.m2 V W;grind [ar]
theorem adB {k d a b:Int}(E:0<=k)(hd:1<=d)(h:a<=b):k*a / d<=k*b / d:=ars XM (arf h E)
section
variable {i:Int}{x:Reach}
theorem aaE (h:be i x=true){v:Int}(O:0<=v)(E:v<=1073741824):0<=wst x v/\wst x v<=v:=by
 have:=AK h O E;unfold wst;omega
theorem Dg (h:be i x=true){a b:Int}(a0:0<=a)(E:a<=b)(V:b<=1073741824):wst x a<=wst x b:=by
 have O:=GS (yy h).1;rw[aaD h a0 XM,aaD h XM V];have:=adB (k:=x.atL.2.d - x.atL.2.n) (d:=x.atL.2.d) (by have:=O.n2;omega) O.r2.d1 E;omega
end
theorem amy {i j:Int}(E:0<=i)(h1:i<=j)(h2:j<=2305843009213693952):i64.wrap (oy .u64 (u64.wrap (i64.wrap (i+j))) 1)=(i+j) / 2:=by
 have e:u64.wrap (i+j)=i+j:=by
  grind [IntKind.wrap,IntKind.bits]
 have O:oy .u64 (i+j) 1=(i+j) / 2:=by
  show Int.fdiv (i+j) ((2:Int) ^ min (Int.toNat 1) u64.bits)=_;have:(2:Int) ^ min (Int.toNat 1) u64.bits=2:=by decide
  grind
 grind [ar]
theorem Jr {f:Int->Bool}{N:Int}{step:Nat->Int×Int->Int⊕(Int×Int)}(hN:N<=2305843009213693952)
  (hs:∀ k i j,0<=i->i<j->j<=N->step k (i,j)=if f ((i+j) / 2)=true then .inr (i,(i+j) / 2)else .inr ((i+j) / 2+1,j)) (he:∀ k i j,¬i<j->step k (i,j)=.inl i):
  ∀ (E k:Nat) (i j:Int),0<=i->i<=j->j<=N->j - i<2 ^ E->∃ v,aj step (E+1) k (i,j)=.inl v/\i<=v/\v<=j/\
   ((∀ a b,0<=a->a<=b->b<N->f a=true->f b=true)->(∀ u,i<=u->u<v->f u=false)/\(v<j->f v=true)):=by
 intro E;induction E with
 |zero=>
  intro k i j O h1 h2 h3;have:j=i:=XM
  subst this;exact⟨j,by grind [aj],aqO _,aqO _,λ_=>⟨λu W X=>XM,λh=>XM⟩⟩
 |succ E ih=>
  intro k i j O h1 h2 h3;by_cases hlt:i<j
  simp[aj,hs k i j O hlt h2];by_cases Y:f ((i+j) / 2)=true
  rw[if_pos Y];have⟨v,e1,e2,e3,e4⟩:=ih (k+1) i ((i+j) / 2) O XM XM XM;refine⟨v,e1,e2,XM,λV=>⟨(e4 V).1,λ_=>?_⟩⟩;grind
  rw[if_neg Y];have⟨v,e1,e2,e3,e4⟩:=ih (k+1) ((i+j) / 2+1) j XM XM h2 XM;refine⟨v,e1,XM,e3,λV=>⟨λu W X=>?_,(e4 V).2⟩⟩;grind
  have:j=i:=XM
  subst this;exact⟨j,by grind [aj],aqO _,aqO _,λ_=>⟨λu W X=>XM,λh=>XM⟩⟩
theorem MG (w:Int)(x:Reach):∃ v,aj (kX x w) 64 0 (0,1073741825)=.inl v/\0<=v/\v<=1073741825/\
  ((∀ a b,0<=a->a<=b->b<1073741825->fQ a x w=true->fQ b x w=true)->(∀ u,0<=u->u<v->fQ u x w=false)/\(v<1073741825->fQ v x w=true)):=by
 refine Jr (f:=λv=>fQ v x w) (N:=1073741825) XM (λk i j E h1 h2=>?_) (λk i j h=>?_) 63 0 0 1073741825 XM XM XM (by decide);unfold kX;rw[amy E XM XM,ar XM XM];grind
 grind [kX]
theorem aaF (w:Int)(x:Reach):s7 1073741825 x w:=λz E=>by
 have⟨v,h,_⟩:=MG w x;grind
def OJ (x:Reach)(w:Int):mw x w:=λ_=>aaF _ x
def aaG (x:Reach)(w:Int):oh x w:=λ_=>OJ x w
section
variable {i:Int}{x:Reach}
theorem RH (h:be i x=true){w:Int}(hw:1<=w)(X:w<=1073741824):0<=d6 (w - 1) x/\d6 (w - 1) x<=1073741825/\(∀ u,0<=u->u<d6 (w - 1) x->wst x u<w)/\(d6 (w - 1) x<=1073741824->w<=wst x (d6 (w - 1) x)):=by
 have⟨v,e1,e2,e3,e4⟩:=MG (w - 1) x;have ev:d6 (w - 1) x=v:=by grind [d6,wF]
 have W:∀ u,0<=u->u<=1073741824->(fQ u x (w - 1)=true↔w<=wst x u):=λu O V=>by
  have:=AK h O V;unfold fQ s6 wst;rw[ar XM XM,decide_eq_true_eq];omega
 have⟨e5,e6⟩:=e4 λa b a0 E hb Y=>(W b XM XM).2 (by
  have:=Dg h a0 E XM;grind)
 grind
theorem AL (Y:0<=i)(h:be i x=true){w:Int}(hw:1<=w):(∃ v,aw x w=(v,true)/\1<=v/\v<=1073741824/\x.atz<=v/\w<=wst x v/\∀ u,0<=u->u<=1073741824->x.atz<=u->w<=wst x u->v<=u)\/
  ((aw x w).2=false/\∀ u,0<=u->u<=1073741824->wst x u<w):=by
 have hr:=ME Y h;unfold aw;by_cases E:w<=1073741824
 have hc:(w==0||decide (w > 1073741824))=false:=XN
 rw[hc];have⟨l1,l2,l3,l4⟩:=RH h hw E;unfold dV;have hv:(gC x w !=0)=false:=by grind [AK]
 rw[hv,ar XM XM];by_cases X:d6 (w - 1) x<=1073741824
 rw[decide_eq_false XM];simp only[cond_false];have W:=l4 X;have l6:=aaE h l1 X;refine .inl ⟨_,rfl,?_,?_,?_,?_,λu O V u2 u3=>?_⟩;omega;have:=hr.atz;have:=hr.cap;omega;omega;have:=hr.atz;have:=hr.cap;split
 exact ast W (Dg h l1 XM XM);exact W;grind
 grind
 refine .inr ⟨XN,λu O V=>?_⟩;have:=aaE h O V;omega
end
end Go.Sx
end
section
namespace Go.Proofs
open Go.Shelf Go.Sx
def Tryz.avo:Go.Shelf.Ren:=⟨λ|6=>171|15=>133|14=>246|28=>199|29=>200|20=>290|21=>291|22=>292|23=>293|24=>294|25=>295|26=>296|27=>297|46=>328|47=>260|48=>261|49=>329|50=>330|57=>343|n=>n,λ|22=>50|24=>259|25=>270|3=>3|39=>229|0=>0|53=>294|55=>296|4=>4|46=>288|45=>287|50=>267|5=>5|9=>9|66=>342|70=>60|76=>375|77=>376|n=>n,λ|n=>n⟩
theorem Tryz.avz:Go.Proofs.SlLaysF0.n6 Tryz.prog Tryz.avo:=⟨kr,⟨Tryz.f171.name,by decide,kr⟩,⟨Tryz.f246.name,by decide,kr⟩,kr,⟨Tryz.f290.name,by decide,kr⟩,⟨Tryz.f291.name,by decide,kr⟩,⟨Tryz.f292.name,by decide,kr⟩,⟨Tryz.f293.name,by decide,kr⟩,⟨Tryz.f294.name,by decide,kr⟩,⟨Tryz.f295.name,by decide,kr⟩,⟨Tryz.f296.name,by decide,kr⟩,⟨Tryz.f297.name,by decide,kr⟩,kr,kr,⟨Tryz.f328.name,by decide,kr⟩,kr,kr,⟨Tryz.f329.name,by decide,kr⟩,⟨Tryz.f330.name,by decide,kr⟩,⟨Tryz.f343.name,by decide,kr⟩,kr,λ_=>kr,λ_=>kr,λ_=>kr,kr,λ_=>kr,λ_=>kr,λ_=>kr,kr,λ_=>kr,λ_=>kr,λ_=>kr,kr,λ_=>kr,λ_=>kr,λ_=>kr,kr,λ_=>kr,λ_=>kr,λ_=>kr,kr,λ_=>kr,λ_=>kr,λ_=>kr,kr,λ_=>kr,λ_=>kr,λ_=>kr,kr,λ_=>kr,λ_=>kr,λ_=>kr,kr,λ_=>kr,λ_=>kr,λ_=>kr,kr,λ_=>kr,λ_=>kr,λ_=>kr,kr,λ_=>kr,λ_=>kr,λ_=>kr,kr,λ_=>kr,λ_=>kr,λ_=>kr,kr,λ_=>kr,λ_=>kr,λ_=>kr,kr,λ_=>kr,λ_=>kr,λ_=>kr,kr,λ_=>kr,λ_=>kr,λ_=>kr,kr,λ_=>kr,λ_=>kr,λ_=>kr,kr,λ_=>kr,λ_=>kr,λ_=>kr⟩
end Go.Proofs
end
section
namespace Go.Sx
open Go.Proofs Tryz
@[go_sem] def vV (a:List Int)(b:Nat)(c:Unit):Int⊕Unit:=(bif((a.getD b 0) !=0)then .inl (a.getD b 0)else .inr ())
def fY (a:List Int):Int:=(match aj (vV a) a.length 0 ()with| .inl b=>b| .inr c=>0)
@[go_sem] def Dh:FI:=(pR .int λa=>(pE (.det True (.i (fY a)))))
def vW:P0 prog 173 Dh:=by
 have hG:=mG Q1 Q1;refine fN hG f173 [.o] (aZ λO=>(am (λY=>?_)));dsimp only[an]at Y;refine⟨nbl rfl,(XO 0 (LCR (ρ:=Int) (σ:=Unit) 0 [] [] (λV W=>⟨[(5,.rs .int O),(6,.i (O.length:Int)),(7,.i V)],[]⟩) (vV O) pT O.length () (O.length<=aD) (λ_=>.ret) (λE=>⟨[(2,.i E)],[]⟩)) L0),?_,?_⟩;unfold aa f173;simp only[ak,true_and,and_true];refine bG aC hG (λ_=>rfl) (O.length:Int) eE (λhb0 V W X _ hw hc=>⟨L0,ag _,aW (jl [])⟩) λhb0 W hc=>aV (jl []);exact Ce @fY.eq_1
def av (a b:Order):Int:=(fY ([(bv a.hour b.hour),(bv a.index b.index)]))
@[go_sem] def rP:FI:=(pD .order λa=>(pD .order λb=>(pE (.det True (.i (av a b))))))
def yA:P0 prog 243 rP:=fN (mG (cp fg (cn [.sl .int] vW Q1)) Q1) f243 [.o] (ap λa=>ap λb=>am λE=>Ko @av.eq_1)
def rh (x:Order):Bool:=(decide (x.bn > 1073741824))
@[go_sem] def A5:FI:=(pD .order λx=>(pE (.det True (.v (.bool (rh x))))))
def z7:P0 prog 166 A5:=fN (mG Q1 Q1) f166 [.o] (ap λx=>am λE=>Ko @rh.eq_1)
def RI (x:Int)(l:List Int):fY (x::l)=if x=0 then fY l else x:=by
 have key:∀ l:List Int,fY l=match cS (ρ:=Int) (λ(x:Int) (_:Unit) =>bif(x !=0)then .inl x else .inr ()) l ()with| .inl y=>y| .inr _=>0:=λl=>by
  have:=uu (ρ:=Int) (λ(x:Int) (_:Unit) =>bif(x !=0)then .inl x else .inr ()) 0 l ();rw[<-this];rfl
 rw[key];simp[cS];grind
def T5:fY []=0:=rfl
def OK:List (Int×Int)->Prop
 | [] =>False|(a,b)::r=>a<b\/a=b/\OK r
def Js:∀ l:List (Int×Int),(fY (l.map λp=>bv p.1 p.2) <0↔OK l)
 | [] =>by simp[T5,OK]
 |(a,b)::r=>by
  have hc:=ka a b;simp[aqZ,RI,hc,OK];rcases asf a b with h|h|h;simp[h];subst h;simp[as7,true_and,false_or];exact Js r;omega
def Xd (a b:Order):Prop:=OK [(a.hour,b.hour),(a.index,b.index)]
def yB (a b:Order):av a b<0↔Xd a b:=Js [(a.hour,b.hour),(a.index,b.index)]
open Go.Shelf Go.Sort in
def lp:SWO (ltOf av):=Oe yB (λx=>by simp_all [Xd,OK]) (λx y z h1 h2=>by simp[Xd,OK,and_false,or_false]at *;omega) (λx y z h1 h2=>by simp[Xd,OK,and_false,or_false]at *;omega)
end Go.Sx
end
section
namespace Go.Sx
open Go.Lib Go.Proofs Go.RowKit Go.Shelf Go.Sort Tryz
noncomputable def vX:List SV->List Ob->Option atB:=λl h=>orC (jz .order 298 [.ep [sr] 0] aM l h) (jz .order 243 [] av l h)
variable {l0:List Order}
@[go_sem]def abV:vX [.os 0,.fn 298 [] [.ep [sr] 0]] [.row .order l0]=some (fZ (apart aM l0) (.tup []) [.row .order (srt aM l0)]):=by
 unfold vX;rw[oM];rfl
@[go_sem]def aaH:vX [.os 0,.fn 243 [] []] [.row .order l0]=some (fZ (apart av l0) (.tup []) [.row .order (srt av l0)]):=by
 unfold vX;rw[oM];have:jz .order 298 [.ep [sr] 0] aM [.os 0,.fn 243 [] []] [.row .order l0]=none:=by simp[jz,QF]
 rw[this];rfl
theorem Fz:zM .order:=λx s E=>by
 simp[cellsOf,aqg,aq_,or_false]at E;rcases E with rfl|rfl|rfl|rfl;all_goals exact⟨_,rfl,rfl⟩
theorem aaI (x y:Order):nK (.agg (cellsOf .order x):: .agg (cellsOf .order y)::[.ep [sr] 0])=some (.det True (.i (aM x y))):=by
 simp[go_sem]
theorem FA (x y:Order):rP (.agg (cellsOf .order x):: .agg (cellsOf .order y)::[])=some (.det True (.i (av x y))):=by
 rfl
theorem FB:atA prog 171 vX:=by
 refine atA.or ?_ ?_;refine tJ (k:=.order) Tryz.avz (λw=>by kernel_rfl) (λw=>by kernel_rfl) Fz (by decide) (g:=298) (caps:=[.ep [sr] 0]) y5 (cf:=aM) aaI yx (λs E=>?_) ⟨default,default,aaI _ _⟩;simp[aqg,aq_,or_false]at E;subst E;exact im 5 _ rfl;exact tJ (k:=.order) Tryz.avz (λw=>by kernel_rfl) (λw=>by kernel_rfl) Fz (by decide) (g:=243) (caps:=[]) yA (cf:=av) FA lp (λs E=>by cases E) ⟨default,default,FA _ _⟩
end Go.Sx
end
section
namespace Go.Sx
open Go.Proofs Tryz
open IntKind (i64)
@[go_sem] def bT (d:ai)(e:List Order)(f:Nat)(b:List ((Int×Int)×Int)):Unit⊕(List ((Int×Int)×Int)):=letI a:=e.getD f default;letI c:=((d.zs.getD (Int.toNat (a.index)) default).reach,a.hour);(bif(!a.S2)then .inl ()else .inr (cy .atv .int b c (i64.wrap ((aF .atv .int b c)+a.bn))))
def kg (c:ai)(a:List Order)(b:Nat)(d:List ((Int×Int)×Int)):Prop:=((!(a.getD b default).S2)=false->(0<=(a.getD b default).index/\(a.getD b default).index< (c.zs.length:Int)))
@[go_sem] def aI (g:ai)(b:Int×Int)(a:List Order×List ((Int×Int)×Int)):(List ((Int×Int)×Int))⊕(List Order×List ((Int×Int)×Int)):=letI c:=g.reaches.getD (Int.toNat b.1) default;letI d:=i64.wrap (b.2 - c.delay);letI f:=aF .atv .int a.2 (b.1,b.2);letI e:=aw c f;(bif(f==0)then .inr (a.1,a.2)else(bif((!e.2) ||(decide (b.2<c.delay)))then .inl a.2 else .inr ((a.1++([({ hour:=d,index:=b.1,bn:=e.1,S2:=false}:Order)])),(cy .atv .int a.2 (c.up,d) (i64.wrap ((aF .atv .int a.2 (c.up,d))+e.1))))))
def kh (d:ai)(a:Int×Int)(e:List Order×List ((Int×Int)×Int)):Prop:=letI b:=d.reaches.getD (Int.toNat a.1) default;letI c:=aF .atv .int e.2 (a.1,a.2);letI f:=aw b c;((c==0)=false->((0<=a.1/\a.1< (d.reaches.length:Int))/\((oh b c)/\(((!f.2) ||(decide (a.2<b.delay)))=false->((e.1++([({ hour:=(i64.wrap (a.2 - b.delay)),index:=a.1,bn:=f.1,S2:=false}:Order)])).length*32<=dh)))))
def aH (a:ai)(b:List Order):List Order×Bool×Int:=letI c:=cU a b;(bif(c !=0)then([],false,c)else(match aj (bT a b) b.length 0 ([])with| .inl f=>([],false,220) | .inr e=>(match cS (aI a) (cd a) (b,e)with| .inl g=>([],false,0) | .inr d=>(bif(decide ((d.1.length:Int) > 4096))then([],false,2)else((srt aM d.1),true,0)))))
def ri (b:ai)(a:List Order):Prop:=letI c:=bT b a;letI d:=aI b;letI e:=cd b;((oi b a)/\(((cU b a) !=0)=false->(a.length<=aD->(okI c (kg b a) a.length 0 ([])/\(∀ ee,aj c a.length 0 ([])=.inr ee->((a.length*32<=dh)/\((b.hours<9223372036854775808)/\okL d (kh b) e (a,ee)/\(∀ s_1,cS d e (a,ee)=.inr s_1->(s_1.1.length<=aD->((decide ((s_1.1.length:Int) > 4096))=false->(apart aM s_1.1)))))))))))
@[go_sem] def Jt:FI:=(pD .al λa=>(pR .order λb=>(pE (.det (ri a b) (.tup [.rs .order ((aH a b).1),.v (.bool ((aH a b).2.1)),.i ((aH a b).2.2)])))))
variable {p:Prop}
def amz(h:p:=by simp only[go_sem,e1_0,e1_1,e1_2,e1_3,e1_4,e1_5]):p:=h
variable {l0 l1:List Nat}
def amA(a0:JL l0)(a1:JL l1)(h:JL l0->JL l1->p:=by intro ja jb;simp only[go_sem,n9,gD,aI,psT,H7,aqB,aqs];all_goals exact fM ja jb):p:=h a0 a1
def ae4(a0:JL l0)(a1:JL l1)(h:JL l0->JL l1->p:=by intro ja jb;simp only[go_sem,n9,gD];all_goals exact fM ja jb):p:=h a0 a1
theorem amB(h:p:=by simp only[go_sem,n9,gD];all_goals exact cl3):p:=h
theorem Gl:P0 prog 109 Jt:=by
 have hG:=mG (cn [.st .al,.sl .order] Df (cn [.sl .order] FQ (cn [.st .al] CP (cp De (cp vT Q1))))) (co FB Q1);refine fN hG f109 [.sl .order,.o,.o] (ap λa0=>(aZ λa1=>(am (λX=>?_))));dsimp only[an,ri]at X;refine⟨nbl rfl,(XO 0 (LCR (ρ:=Unit) (σ:=(List ((Int×Int)×Int))) 6 [] [0,1,2,3,4,5] (λY V=>⟨[(1,.rs .order a1),(2,.ptr 0 0),(4,.ptr 1 0),(5,.ptr 2 0),(6,.ptr 3 0),(7,.ptr 5 0),(23,.rs .order a1),(24,.i (a1.length:Int)),(25,.i Y)],[.cells (cellsOf .al a0),.cells [.v (.slice none 0 0)],.cells [.v (.bool false)],.cells [.i (cU a0 a1)],.mp .atv .int V none,.cells [.os 4]]⟩) (bT a0 a1) (kg a0 a1) a1.length ([]) (a1.length<=aD) (λ_=>.ret) (λlx=>⟨[(4,.ptr 1 0),(5,.ptr 2 0),(6,.ptr 3 0)],[.dead,.cells [.v (.slice none 0 0)],.cells [.v (.bool false)],.cells [.i 220],.dead,.dead]⟩)) (XO 2 (λst=>LC (ρ:=List ((Int×Int)×Int)) (σ:=List Order×List ((Int×Int)×Int)) (lk 2 st.t=.ptr 0 0/\lk 4 st.t=.ptr 1 0/\lk 5 st.t=.ptr 2 0/\lk 6 st.t=.ptr 3 0/\lk 7 st.t=.ptr 5 0/\lk 53 st.t=.fn 245 [] [.ep (cellsOf .al a0) 0]/\st.h=[.cells (cellsOf .al a0),.cells [.os 6],.cells [.v (.bool false)],.cells [.i (cU a0 a1)],.mp .atv .int (cB (aj (bT a0 a1) a1.length 0 ([]))) none,.cells [.os 4],.row .order a1]/\a0.hours<9223372036854775808/\okL (aI a0) (kh a0) (cd a0) (a1,(cB (aj (bT a0 a1) a1.length 0 ([]))))) (cS (aI a0) (cd a0) (a1,(cB (aj (bT a0 a1) a1.length 0 ([]))))) (λ_=>.ret) (λO=>⟨[(2,.ptr 0 0),(4,.ptr 1 0),(5,.ptr 2 0),(6,.ptr 3 0),(7,.ptr 5 0)],[.cells (cellsOf .al a0),.cells [.v (.slice none 0 0)],.cells [.v (.bool false)],.cells [.i 0],.mp .atv .int O none,.cells [.os 4],.dead,.dead]⟩) (λE=>⟨[(2,.ptr 0 0),(4,.ptr 1 0),(5,.ptr 2 0),(6,.ptr 3 0),(7,.ptr 5 0)],[.cells (cellsOf .al a0),.cells [.os 7],.cells [.v (.bool false)],.cells [.i (cU a0 a1)],.mp .atv .int E.2 none,.cells [.os 4],.dead,.row .order E.1]⟩)) L0)),?_,?_⟩
 ·unfold aa f109;simp only[ak,true_and,and_true];refine⟨?_,?_⟩;refine bG aC hG (λ_=>rfl) (a1.length:Int) eE (λhb0 Y V aue W hw hc=>⟨L0,ag _,?_⟩) (λhb0 V hc=>?_);simp only[kg,hw,aqa]at W
  exact aW (jl [0,1,2,3,4,5]);exact aV (jl [0,1,2,3,4,5])
  ·refine uR mixed aC hG (by decide) (by decide) kr kr λst lc hC X=>?_;simp only[go_sem,Nat.reduceBEq,aqd]at hC;subst hC;obtain⟨t,h⟩:=st;dsimp only[LC]at X;obtain⟨e1_0,e1_1,e1_2,e1_3,e1_4,e1_5,rfl,hb1,hok1⟩:=X;refine⟨245,[.ep (cellsOf .al a0) 0],Int×Int,_,_,(cd a0),H7,(aI a0),(kh a0),_,(a1,(cB (aj (bT a0 a1) a1.length 0 ([])))),_,_,_,[(2,.ptr 0 0),(4,.ptr 1 0),(5,.ptr 2 0),(6,.ptr 3 0),(7,.ptr 5 0)],(λE=>[.cells (cellsOf .al a0),.cells [.os 7],.cells [.v (.bool false)],.cells [.i (cU a0 a1)],.mp .atv .int E.2 none,.cells [.os 4],.dead,.row .order E.1]),(λO=>[.cells (cellsOf .al a0),.cells [.v (.slice none 0 0)],.cells [.v (.bool false)],.cells [.i 0],.mp .atv .int O none,.cells [.os 4],.dead,.dead]),[0,1,2,3,4,5,6,6],?_,rfl,hok1,nbl rfl,?_,WJ a0 hb1,λz_1 E hq1=>⟨rfl,L0,λl=>?_,λl=>?_,?_⟩,λE=>?_,λy=>?_⟩;exact amz
   ·simp only[go_sem,ww,lB,aqx,arp,aqs,aqo,aq4,e1_0,e1_1,e1_2,e1_3,e1_4,e1_5];all_goals (first|done|decide|(repeat' (first|refine And.intro ?_ ?_|rfl|decide)))
   simp only[ak,and_self,true_and,and_true];simp only[ak,and_self,true_and,and_true];unfold kh at hq1;exact amA (jl [0,1,2,3,4,5,6,7]) (jl [0,1,2,3,4,5,6,10]);exact ae4 (jl [0,1,2,3,4,5,6,7]) (jl [0,1,2,3,4,5,6,10]);exact ae4 (jl [0,1,2,3,4,5,6,7]) (jl [0,1,2,3,4,5,6,10])
 unfold aa f109;try unfold aH
 exact amB
def nL (d:ai)(a b:Int)(x:Order):Bool:=(x.hour==b)&&((x.S2&&(d.zs.getD x.index.toNat default).reach==a) ||(!x.S2&&(d.reaches.getD x.index.toNat default).up==a))
abbrev rch (d:ai)(r:Int):Reach:=d.reaches.getD r.toNat default
def drw (d:ai)(l:List Order)(r h:Int):Int:=fS (nL d r h) l
theorem Ju {ρ σ τ:Type}{step:τ->σ->ρ⊕σ}(J:List τ->σ->Prop)(E:∀ x L s,J (x::L) s->∀ s',step x s=.inr s'->J L s'):∀ (L:List τ) (s:σ),J L s->(∀ s',cS step L s=.inr s'->J [] s')/\∀ y,cS step L s=.inl y->∃ x V s',J (x::V) s'/\step x s'=.inl y
 | [],s,h=>⟨λs' e=>by grind [cS],λy e=>by simp[cS]at e⟩
 |x::L,s,h=>by
  cases O:step x s with
  |inl y=>
   grind [cS]
  |inr s1=>
   have⟨h1,h2⟩:=Ju J E L s1 (E x L s h s1 O);grind [cS]
def OL {ρ σ τ:Type}{step:τ->σ->ρ⊕σ}{p:τ->σ->Prop}(J:List τ->σ->Prop)(E:∀ x L s,J (x::L) s->p x s/\∀ s',step x s=.inr s'->J L s'):∀ (L:List τ) (s:σ),J L s->okL step p L s
 | [],_,_=>trivial
 |x::L,s,h=>⟨(E x L s h).1,λs' e=>OL J E L s' ((E x L s h).2 s' e)⟩
def PR (r h:Nat)(a b:Int):Prop:=(r:Int) <a\/a=r/\b< (h:Int)
abbrev Mp:=List ((Int×Int)×Int)
structure PG (d:ai)(l:List Order)(x:Order):Prop where
 out:x.S2=false
 i0:0<=x.index
 i1:x.index< (d.reaches.length:Int)
 h0:0<=x.hour
 h1:x.hour+(rch d x.index).delay<d.hours
 w:1<=drw d l x.index (x.hour+(rch d x.index).delay)
 v:aw (rch d x.index) (drw d l x.index (x.hour+(rch d x.index).delay))=(x.bn,true)
structure PI (d:ai)(out gs:List Order)(m:Mp)(r h:Nat):Prop where
 au_:∀ a b,aF .atv .int m (a,b)=drw d (out++gs) a b
 gate:∀ x∈gs,PG d (out++gs) x/\PR r h x.index (x.hour+(rch d x.index).delay)
 all:∀ a b,0<=a->a< (d.reaches.length:Int)->0<=b->b<d.hours->PR r h a b->drw d (out++gs) a b≠0->∃ x∈gs,x.index=a/\x.hour+(rch d a).delay=b
 uniq:gs.Pairwise λx y=>¬ (x.index=y.index/\x.hour=y.hour)
 len:gs.length<=(d.reaches.length - 1 - r)*d.hours.toNat+h
def yC (d:ai)(a b:List Order)(r h:Int):drw d (a++b) r h=drw d a r h+drw d b r h:=xI _ _ _
theorem Di (d:ai)(x:Order)(r h:Int):drw d [x] r h=bif nL d r h x then x.bn else 0:=by unfold drw;simp[fS]
variable {d:ai}{l:List Order}
theorem RJ(hr:atq d){x:Order}(h:PG d l x):1<=x.bn/\x.bn<=1073741824/\(rch d x.index).atz<=x.bn/\drw d l x.index (x.hour+(rch d x.index).delay)<=wst (rch d x.index) x.bn/\∀ u,0<=u->u<=1073741824->(rch d x.index).atz<=u->drw d l x.index (x.hour+(rch d x.index).delay)<=wst (rch d x.index) u->x.bn<=u:=by
 have E:x.index.toNat<d.reaches.length:=by have:=h.i0;have:=h.i1;omega
 rcases AL (i:=(x.index.toNat:Int)) XM (hr.reach _ E) h.w with⟨v,e,O,Y,V,W,X⟩ | ⟨e,_⟩;have:=h.v;grind
 rw[h.v]at e;cases e
variable {m:Mp}{r h:Nat}
theorem PI.lit{out gs:List Order}(hr:atq d)(E:atC d out)(p:PI d out gs m r h):∀ x∈out++gs,1<=x.bn/\x.bn<=1073741824:=λx hx=>by
 rcases aqz.1 hx with hx|hx;exact E.lit x hx;have:=RJ hr (p.gate x hx).1;omega
def qr(h:∀ x∈l,1<=x.bn/\x.bn<=1073741824)(a b:Int):0<=drw d l a b/\drw d l a b<=l.length*1073741824:=su h
theorem PI.avF{out gs:List Order}(hr:atq d)(E:atC d out)(p:PI d out gs m r h)(O:h<=d.hours.toNat):(out++gs).length<=266240+4096:=by
 have h1:=p.len;have h2:(d.reaches.length - 1 - r)*d.hours.toNat<=64*4096:=arY (by have:=hr.reaches;omega) (by have:=hr.hours;omega);have:=E.len;have:=hr.hours;grind
theorem PI.row{out gs:List Order}(p:PI d out gs m (r+1) d.hours.toNat)(W:r+1<d.reaches.length)(Y:1<=d.hours):PI d out gs m r 0:=by
 refine⟨p.au_,λx E=>⟨(p.gate x E).1,?_⟩,λa b a0 a1 V O X=>p.all a b a0 a1 V O ?_,p.uniq,?_⟩;have:=(p.gate x E).2;grind [PR]
 grind [PR]
 have:=p.len;rw[show d.reaches.length - 1 - r=(d.reaches.length - 1 - (r+1))+1 by omega,asO];omega
theorem PI.skip{out gs:List Order}(p:PI d out gs m r h)(Y:drw d (out++gs) r h=0):PI d out gs m r (h+1):=by
 refine⟨p.au_,λx O=>⟨(p.gate x O).1,?_⟩,λa b a0 a1 V X hp E=>?_,p.uniq,?_⟩;have:=(p.gate x O).2;grind [PR]
 by_cases W:PR r h a b
 exact p.all a b a0 a1 V X W E;grind [PR]
 have:=p.len;omega
def ae5(a:atq d)(h:r<d.reaches.length):(rch d r).up<r:=(a.auU h).up
def qs(a:atq d)(h:r<d.reaches.length):1<=(rch d r).delay/\(rch d r).delay<=16:=⟨(a.auU h).auT,(a.auU h).delay⟩
theorem PI.add{out gs:List Order}(hr:atq d)(ho:atC d out)(p:PI d out gs m r h)(Y:r<d.reaches.length)(hhl:h<d.hours.toNat)(h1:1<=drw d (out++gs) r h){v:Int}(hv:aw (rch d r) (drw d (out++gs) r h)=(v,true))(hd:(rch d r).delay<=h)(v0:1<=v)(v1:v<=1073741824):
  PI d out (gs++[{ hour:=(h:Int) - (rch d r).delay,index:=r,bn:=v,S2:=false}]) (cy .atv .int m ((rch d r).up,(h:Int) - (rch d r).delay) (i64.wrap (aF .atv .int m ((rch d r).up,(h:Int) - (rch d r).delay)+v))) r (h+1):=by
 generalize X:({ hour:=(h:Int) - (rch d r).delay,index:=(r:Int),bn:=v,S2:=false}:Order)=x;have xo:x.S2=false:=by rw[<-X]
 have xi:x.index=r:=by rw[<-X]
 have xh:x.hour=(h:Int) - (rch d r).delay:=by rw[<-X]
 have hup:=ae5 hr Y;have V:∀ a b,drw d (out++(gs++[x])) a b=drw d (out++gs) a b+(if a=(rch d r).up/\b=(h:Int) - (rch d r).delay then v else 0):=λa b=>by
  rw[<-aqY,yC,Di];unfold nL;grind
 have E:∀ a b,(r:Int)<=a->drw d (out++(gs++[x])) a b=drw d (out++gs) a b:=λa b ha=>by
  grind
 have hb:=qr (d:=d) (p.lit hr ho);have hlen:=p.avF hr ho XM;refine⟨λa b=>?_,λy hy=>?_,λa b a0 a1 b0 b1 hp W=>?_,?_,?_⟩;rw[nz (k:=.atv),V,p.au_,p.au_];have:=hb (rch d r).up ((h:Int) - (rch d r).delay);by_cases e:a=(rch d r).up/\b=(h:Int) - (rch d r).delay
 rw[if_pos e,if_pos (by rw[e.1,e.2]),e.1,e.2,ar XM XM];grind
 rcases aqz.1 hy with hy|hy;have⟨g,gp⟩:=p.gate y hy;have O:(r:Int)<=y.index:=by grind [PR]
 refine⟨⟨g.out,g.i0,g.i1,g.h0,g.h1,by rw[E _ _ O];exact g.w,by rw[E _ _ O];exact g.v⟩,?_⟩;grind [PR]
 rw[aq8]at hy;subst hy;have eh:y.hour+(rch d y.index).delay=h:=XN
 refine⟨⟨xo,XM,XM,XM,XM,?_,?_⟩,?_⟩;grind
 grind
 grind [PR]
 have O:(r:Int)<=a:=by grind [PR]
 rw[E _ _ O]at W;by_cases hq:PR r h a b
 have⟨y,hy,e⟩:=p.all a b a0 a1 b0 b1 hq W;grind
 grind [PR]
 rw[aqr];refine⟨p.uniq,aqI _ _,λy hy z hz=>?_⟩;have:=(p.gate y hy).2;grind [PR]
 have:=p.len;grind
theorem AM{out:List Order}(hr:atq d)(ho:atC d out):
  (∀ m,aj (bT d out) out.length 0 []=.inr m->(∀ x∈out,x.S2=true)/\∀ a b,aF .atv .int m (a,b)=drw d out a b)/\okI (bT d out) (kg d out) out.length 0 []/\((∀ x∈out,x.S2=true)->∃ m,aj (bT d out) out.length 0 []=.inr m):=by
 let J:Nat->Mp->Prop:=λk m=>k<=out.length->(∀ x∈out.take k,x.S2=true)/\∀ a b,aF .atv .int m (a,b)=drw d (out.take k) a b
 have V:J 0 []:=λ_=>⟨by simp,λa b=>by rfl⟩;have hstep:∀ j s,0<=j->j<0+out.length->J j s->kg d out j s/\∀ s',bT d out j s=.inr s'->J (j+1) s':=λj s _ Y hJ=>by
  have Y:j<out.length:=XM
  have⟨h1,h2⟩:=hJ XM;have O:=ho.one j Y;refine⟨λhe=>?_,λs' X _=>?_⟩;have:(out.getD j default).S2=true:=XN
  have:=O.gl this;have:=O.auM;omega;unfold bT at X;cases E:(out.getD j default).S2 with
  |false=>grind
  |true=>
   rw[E]at X;simp only[aqE,cond_false,aqW]at X;rw[aqD Y];refine⟨λx O=>?_,λa b=>?_⟩;grind
   subst X;rw[yC,Di,nz (k:=.atv),h2];have hb:=qr (d:=d) (l:=out.take j) (λx O=>ho.lit x (aqT O)) (d.zs.getD (out.getD j default).index.toNat default).reach (out.getD j default).hour;have hl:(out.take j).length<=4096:=by have:=ho.len;grind
   have hl1:=O.aut;have hl2:=O.bn;rw[ar XM XM];unfold nL;grind
 refine⟨λm hm=>?_,gq J _ _ _ V hstep,λW=>?_⟩;have:=vt J _ _ _ V (λj s h1 h2 h3=>(hstep j s h1 h2 h3).2) m hm XM;grind
 cases hrun:aj (bT d out) out.length 0 []with
 |inr m=>grind
 |inl y=>
  have key:∀ n i s,i+n<=out.length->∀ y,aj (bT d out) n i s≠ .inl y:=by
   intro n;induction n with
   |zero=>grind [aj]
   |succ n ih=>
    intro i s hi y h;simp[aj]at h;have E:(out.getD i default).S2=true:=W _ (AJ _ _ XM);unfold bT at h;rw[E]at h;exact ih (i+1) _ XM y h
  grind
def PJ (d:ai)(a:List Order)(L:List (Int×Int))(s:List Order×Mp):Prop:= ∃ gs r h,r<d.reaches.length/\h<=d.hours.toNat/\s.1=a++gs/\L=CQ r d.hours.toNat h++yb d.hours.toNat r/\PI d a gs s.2 r h
theorem OM{out:List Order}(hr:atq d){x:Int×Int}{L:List (Int×Int)}{s:List Order×Mp}(h:PJ d out (x::L) s):∃ (gs:List Order) (r h:Nat),r<d.reaches.length/\h<d.hours.toNat/\s.1=out++gs/\x=((r:Int),(h:Int))/\L=CQ r d.hours.toNat (h+1)++yb d.hours.toNat r/\PI d out gs s.2 r h:=by
 have⟨gs,r,h,h1,h2,h3,h4,h5⟩:=h;have E:=hr.aua;by_cases O:h<d.hours.toNat
 grind [rX]
 have:h=d.hours.toNat:=XM
 subst this;rw[xr]at h4;cases r with
 |zero=>simp[yb]at h4
 |succ r=>
  rw[xu,rX XM]at h4;cases h4;exact⟨gs,r,0,XM,XM,h3,rfl,rfl,h5.row h1 E⟩
theorem EG{out:List Order}(hr:atq d)(O:atC d out){gs:List Order}(E:r<d.reaches.length)(V:h<d.hours.toNat){s:List Order×Mp}(Y:s.1=out++gs)(p:PI d out gs s.2 r h):
  (drw d (out++gs) r h=0/\aI d ((r:Int),(h:Int)) s=.inr s)\/
  (1<=drw d (out++gs) r h/\((aw (rch d r) (drw d (out++gs) r h)).2=false\/(h:Int) < (rch d r).delay)/\aI d ((r:Int),(h:Int)) s=.inl s.2)\/
  ∃ v,1<=drw d (out++gs) r h/\aw (rch d r) (drw d (out++gs) r h)=(v,true)/\(rch d r).delay<=h/\1<=v/\v<=1073741824/\
   aI d ((r:Int),(h:Int)) s=.inr (out++(gs++[{ hour:=(h:Int) - (rch d r).delay,index:=r,bn:=v,S2:=false}]),cy .atv .int s.2 ((rch d r).up,(h:Int) - (rch d r).delay) (i64.wrap (aF .atv .int s.2 ((rch d r).up,(h:Int) - (rch d r).delay)+v))):=by
 have hb:=(qr (d:=d) (p.lit hr O) r h).1;have hm:=p.au_ r h;have X:=qs hr E;have hH:=hr.hours;by_cases h0:drw d (out++gs) r h=0
 grind [aI]
 have h1:1<=drw d (out++gs) r h:=XM
 have W:(aF .atv .int s.2 ((r:Int),(h:Int)) ==0)=false:=XN
 have hw:i64.wrap ((h:Int) - (rch d r).delay)=(h:Int) - (rch d r).delay:=ar XM XM;by_cases hd:(h:Int) < (rch d r).delay
 unfold aI;grind
 rcases AL (i:=(r:Int)) XM (hr.reach r E) h1 with⟨v,e,e1,e2,e3,e4,e5⟩ | ⟨e,_⟩;unfold aI;grind
 unfold aI;grind
theorem Vy{out:List Order}(hr:atq d)(Y:atC d out)(x:Int×Int)(L:List (Int×Int))(s:List Order×Mp)(X:PJ d out (x::L) s):∀ s',aI d x s=.inr s'->PJ d out L s':=by
 obtain⟨gs,r,h,h1,h2,h3,rfl,h5,W⟩:=OM hr X;intro s' E;rcases EG hr Y h1 h2 h3 W with⟨V,O⟩ | ⟨V,O,q2⟩ | ⟨v,V,O,q2,q3,q4,q5⟩;rw[O]at E;cases E;exact⟨gs,r,h+1,h1,h2,h3,h5,W.skip V⟩;grind
 rw[q5]at E;cases E;exact⟨_,r,h+1,h1,h2,rfl,h5,W.add hr Y h1 h2 V O q2 q3 q4⟩
theorem RK{out:List Order}(hr:atq d)(W:∀ a b,aF .atv .int m (a,b)=drw d out a b):PJ d out (cd d) (out,m):=by
 have h1:=hr.one;refine⟨[],d.reaches.length - 1,0,XM,aqq _,by simp,?_,⟨XN,by simp,λa b a0 a1 V O E=>?_,List.Pairwise.nil,by simp⟩⟩;unfold cd;rw[<-xu,show d.reaches.length - 1+1=d.reaches.length by omega];grind [PR]
structure auV (d:ai)(out gs:List Order):Prop where
 gate:∀ x∈gs,PG d (out++gs) x
 all:∀ a b,0<=a->a< (d.reaches.length:Int)->0<=b->b<d.hours->drw d (out++gs) a b≠0->∃ x∈gs,x.index=a/\x.hour+(rch d a).delay=b
 uniq:gs.Pairwise λx y=>¬ (x.index=y.index/\x.hour=y.hour)
 len:gs.length<=d.reaches.length*d.hours.toNat
theorem aaJ{out:List Order}(hr:atq d){s:List Order×Mp}(h:PJ d out [] s):∃ gs,s.1=out++gs/\auV d out gs:=by
 have⟨gs,r,h,h1,h2,h3,h4,h5⟩:=h;have Y:=hr.aua;have X:h=d.hours.toNat:=by
  grind [rX]
 subst X;rw[xr]at h4;have r0:r=0:=by
  cases r with
  |zero=>rfl|succ r=>grind [xu,rX]
 refine⟨gs,h3,⟨λx V=>(h5.gate x V).1,λa b a0 a1 O W E=>h5.all a b a0 a1 O W ?_ E,h5.uniq,?_⟩⟩;unfold PR;omega;have:=h5.len;have e:d.reaches.length=(d.reaches.length - 1 - 0)+1:=XM
 grind [Nat.succ_mul]
structure PX (d:ai)(out gs:List Order)(r h:Nat):Prop where
 part:∃ m,PI d out gs m r h
 r1:r<d.reaches.length
 h1:h<d.hours.toNat
 w:1<=drw d (out++gs) r h
 no:(aw (rch d r) (drw d (out++gs) r h)).2=false\/(h:Int) < (rch d r).delay
theorem Jv{out:List Order}(hr:atq d)(O:atC d out)(hm:∀ a b,aF .atv .int m (a,b)=drw d out a b):
  ((∃ s,cS (aI d) (cd d) (out,m)=.inr s/\∃ gs,s.1=out++gs/\auV d out gs)\/∃ y,cS (aI d) (cd d) (out,m)=.inl y/\∃ gs r h,PX d out gs r h)/\
  okL (aI d) (kh d) (cd d) (out,m):=by
 have⟨h1,h2⟩:=Ju (PJ d out) (λx L s h=>Vy hr O x L s h) (cd d) (out,m) (RK hr hm);refine⟨?_,OL (PJ d out) (λx L s h=>⟨?_,Vy hr O x L s h⟩) _ _ (RK hr hm)⟩;cases E:cS (aI d) (cd d) (out,m)with
 |inr s=>exact .inl ⟨s,rfl,aaJ hr (h1 s E)⟩
 |inl y=>
  refine .inr ⟨y,rfl,?_⟩;have⟨x,L,s,g1,g2⟩:=h2 y E;obtain⟨gs,r,h,X,W,Y,rfl,q5,V⟩:=OM hr g1;rcases EG hr O X W Y V with⟨_,e⟩ | ⟨e0,e1,_⟩ | ⟨v,_,_,_,_,_,e⟩;grind
  exact⟨gs,r,h,⟨_,V⟩,X,W,e0,e1⟩;grind
 obtain⟨gs,r,h,X,W,Y,rfl,q5,V⟩:=OM hr h;refine λ_=>⟨⟨XM,XM⟩,aaG _ _,λ_=>?_⟩;have:=V.avF hr O XM;grind [dh]
end Go.Sx
end
section
namespace Go.Sx
open Go.Lib Go.Proofs Go.Shelf Go.Sort
open IntKind (i64)
def K (x y:Order):Prop:=x.hour=y.hour/\x.index=y.index/\x.S2=y.S2
variable {x y:Order}
theorem K.symm(h:K x y):K y x:=⟨h.1.symm,h.2.1.symm,h.2.2.symm⟩
def aaK(h:A4 x=A4 y):x.S2=y.S2:=by
 grind [A4]
def Dj(h1:¬olt x y)(h2:¬olt y x):K x y:=by
 have e:x.hour=y.hour/\x.index=y.index/\A4 x=A4 y:=by grind [olt]
 exact⟨e.1,e.2.1,aaK e.2.2⟩
def Jw(h:olt x y):¬K x y:=λ⟨h1,h2,E⟩ =>by
 grind [A4,olt]
variable {l:List Order}
def ON(h:l.Pairwise λx y=>¬K x y)(E:x∈l)(hy:y∈l)(O:K x y):x=y:=by
 obtain⟨i,hi,rfl⟩:=aqw E;obtain⟨j,V,rfl⟩:=aqw hy;rw[aqM]at h;rcases Nat.lt_trichotomy i j with q|q|q;grind
 subst q;rfl;exact absurd O.symm (h j i V hi q)
def aaL(h:l.Pairwise λx y=>¬K x y):apart aM l:=λx E y hy h1 h2=>by
 refine ON h E hy (Dj (λq=>?_) λq=>?_);unfold ltOf at h1;rw[decide_eq_false_iff_not]at h1;exact h1 ((MD _ _).2 q);unfold ltOf at h2;rw[decide_eq_false_iff_not]at h2;exact h2 ((MD _ _).2 q)
def z8 (l:List Order):(srt aM l).Perm l:=arc _ _
def oX{m:List Order}(h:l.Perm m)(E:m.Pairwise λx y=>¬K x y):l.Pairwise λx y=>¬K x y:=
 (h.pairwise_iff (λ{x y} (h:¬K x y) (k:K y x) =>h k.symm)).2 E
def aaM(h:l.Pairwise λx y=>¬K x y):(srt aM l).Pairwise olt:=by
 have h1:(srt aM l).Pairwise λx y=>(!(ltOf aM y x))=true:=by
  refine aq2 (λa b c h1 h2=>?_) (λa b=>?_) l;simp[aqA]at h1 h2 |-;exact yx.ntrans _ _ _ h2 h1;cases q:ltOf aM b a with
  |false=>rfl
  |true=>
   cases E:ltOf aM a b with
   |false=>rfl|true=>have:=yx.trans _ _ _ q E;rw[yx.irrefl]at this;cases this
 have h2:=oX (z8 l) h;refine(h1.and h2).imp λ{x y} ⟨W,E⟩ =>?_;have O:¬olt y x:=λq=>by
  have:ltOf aM y x=true:=by unfold ltOf;rw[decide_eq_true_eq];exact(MD _ _).2 q
  grind
 exact aqH λV=>E (Dj V O)
structure aup (d:ai)(l:List Order):Prop where
 chk:aB d=0
 len:l.length<=4096
 one:∀ x∈l,au3 d x
 asc:l.Pairwise olt
variable {d:ai}
theorem aup.right(h:aup d l):atq d:=kc (by rw[h.chk];rfl)
theorem Vz(h:cN d l=0):aup d l:=by
 have E:=Jn (d:=d) (l:=l) (by rw[h];rfl);refine⟨((wS d l).1 h).1,E.len,λx V=>?_,aqM.2 λi j hi W O=>?_⟩;obtain⟨i,hi,rfl⟩:=aqw V;have:=E.one i hi;grind
 have:=E.lt j i O W;grind
theorem aup.auD(h:aup d l):atC d l:=by
 refine⟨h.right,h.len,λk E=>?_,λk E=>?_⟩;rw[ib _ _ E];exact h.one _ (aqL _);rw[ib _ _ E,ib _ _ (by omega:k<l.length)];exact(MD _ _).2 (aqM.1 h.asc _ _ _ _ XM)
theorem aup.keys(h:aup d l):l.Pairwise λx y=>¬K x y:=h.asc.imp λ{_ _} q=>Jw q
theorem aaN(h:aup d l):cN d l=0:=by
 refine(wS d l).2 ⟨h.chk,h.len,λk W=>?_⟩;have E:=h.one _ (AJ l default W);have O:(decide ((k:Int) > 0)&&decide (aM (l.getD (i64.wrap ((k:Int) - 1)).toNat default) (l.getD k default)>=0))=false:=by
  rw[arB,decide_eq_false_iff_not];by_cases hk0:0<k
  have X:=h.len;rw[oc XM hk0];have:=h.auD.asc (k - 1) XM;grind
  omega
 unfold fu;rw[O];generalize l.getD k default=x at E;cases V:x.S2 with
 |true=>
  have:=E.gl V;have e:(decide (x.hour<0) ||decide (x.hour>=d.hours) ||decide (x.index<0) ||decide (x.index>=(d.zs.length:Int)) ||decide (x.bn<1) ||decide (x.bn > 1073741824) ||false)=false:=by
   have:=E.au6;have:=E.hour;have:=E.auM;have:=E.aut;have:=E.bn;grind
  rw[e];rfl
 |false=>
  have:=E.reach V;have e:(decide (x.hour<0) ||decide (x.hour>=d.hours) ||decide (x.index<0) ||decide (x.index>=(d.reaches.length:Int)) ||decide (x.bn<1) ||decide (x.bn > 1073741824) ||false)=false:=by
   have:=E.au6;have:=E.hour;have:=E.auM;have:=E.aut;have:=E.bn;grind
  rw[e];rfl
structure Nar (d:ai)(l:List Order):Prop where
 good:aup d l
 wide:(d.reaches.length:Int)*d.hours<=1024
theorem AN(hr:atq d):0<=(d.reaches.length:Int)*d.hours/\(d.reaches.length:Int)*d.hours<=262144:=by
 have:=hr.reaches;have:=hr.aua;have h1:=as2 (by omega:(d.reaches.length:Int)<=64) hr.hours XM XM;have h2:=arO (by omega:0<=(d.reaches.length:Int)) (by omega:0<=d.hours);omega
theorem vY (d:ai)(l:List Order):cU d l=0↔Nar d l:=by
 unfold cU;by_cases h:cN d l=0
 have E:=Vz h;have O:=AN E.right;rw[ar XM XM,h];by_cases hw:(d.reaches.length:Int)*d.hours > 1024
 rw[decide_eq_true hw];exact⟨λe=>(by cases e),λe=>(by have:=e.wide;omega)⟩;rw[decide_eq_false hw];simp only[Bool.and_false,cond_false];exact⟨λ_=>⟨E,XM⟩,λ_=>trivial⟩;have:(cN d l==0)=false:=XN
 rw[this];exact⟨λe=>absurd e h,λe=>absurd (aaN e.good) h⟩
structure PL (d:ai)(out gs:List Order):Prop where
 good:aup d (srt aM (out++gs))
 fin:auV d out gs
theorem Dk{out gs:List Order}(V:aup d out)(E:∀ x∈out,x.S2=true)(h:auV d out gs):(out++gs).Pairwise λx y=>¬K x y:=by
 rw[aqr];refine⟨V.keys,h.uniq.imp λ{x y} q k=>q ⟨k.2.1,k.1⟩,λx O y hy k=>?_⟩;have:=k.2.2;rw[E x O,(h.gate y hy).out]at this;cases this
theorem VA{out gs:List Order}(E:aup d out)(h:auV d out gs):∀ x∈out++gs,au3 d x:=λx hx=>by
 rcases aqz.1 hx with hx|hx;exact E.one x hx;have g:=h.gate x hx;have O:=RJ E.right g;have hd:=qs E.right (r:=x.index.toNat) (by have:=g.i0;have:=g.i1;omega);rw[show((x.index.toNat:Nat):Int)=x.index from ard g.i0]at hd;have:=g.h1;exact⟨g.h0,XM,g.i0,λe=>(by rw[g.out]at e;cases e),λ_=>g.i1,O.1,O.2.1⟩
theorem BX (d:ai)(out:List Order):
  (cU d out≠0/\aH d out=([],false,cU d out))\/
  (Nar d out/\¬ (∀ x∈out,x.S2=true)/\aH d out=([],false,220))\/
  (Nar d out/\(∀ x∈out,x.S2=true)/\(∃ gs r h,PX d out gs r h)/\aH d out=([],false,0))\/
  (Nar d out/\(∀ x∈out,x.S2=true)/\∃ gs,auV d out gs/\4096< (out++gs).length/\aH d out=([],false,2))\/
  (Nar d out/\(∀ x∈out,x.S2=true)/\∃ gs,PL d out gs/\aH d out=(srt aM (out++gs),true,0)):=by
 unfold aH;by_cases hn:cU d out=0
 have O:=(vY d out).1 hn;have hr:=O.good.right;have W:=O.good.auD;rw[hn];have⟨f1,_,f3⟩:=AM hr W;by_cases E:∀ x∈out,x.S2=true
 have⟨m,hm⟩:=f3 E;rw[hm];simp only;have⟨h1,_⟩:=Jv hr W (f1 m hm).2;rcases h1 with⟨s,Y,gs,e1,V⟩ | ⟨y,hy,X⟩;rw[Y];simp only[e1];by_cases hl:(out++gs).length<=4096
 rw[decide_eq_false XM];refine .inr (.inr (.inr (.inr ⟨O,E,gs,⟨⟨O.good.chk,?_,λx X=>VA O.good V x ((z8 _).mem_iff.1 X),aaM (Dk O.good E V)⟩,V⟩,rfl⟩)));rw[(z8 _).length_eq];exact hl;grind
 grind
 grind
 grind
def aaO (d:ai)(l:List Order):oi d l:=T4 d l
theorem ahL (d:ai)(out:List Order):ri d out:=by
 refine⟨aaO _ _,λhn=>?_⟩;have E:=(vY d out).1 XN;have hr:=E.good.right;have V:=E.good.auD;have⟨f1,f2,f3⟩:=AM hr V;refine λ_=>⟨f2,λm X=>⟨?_,?_,?_⟩⟩;have:=V.len;unfold dh;omega;have:=hr.hours;omega;have⟨h1,h2⟩:=Jv hr V (f1 m X).2;refine⟨h2,λs W _ _=>?_⟩;rcases h1 with⟨s',O,gs,Y,e2⟩ | ⟨y,hy,_⟩;rw[O]at W;cases W;rw[Y];exact aaL (Dk E.good (f1 m X).1 e2);grind
end Go.Sx
end
section
namespace Go.Sx
open Go.Proofs
variable {κ υ:Type}[DecidableEq κ]in
theorem RL:∀ (l:List (κ×υ)) (x:κ) (y:υ) (e:κ×υ),e∈v9 l x y->e=(x,y)\/e∈l
 | [],x,y,e,h=>by grind [v9]
 |(a,b)::r,x,y,e,h=>by
  unfold v9 at h;by_cases q:x=a
  grind
  rw[if_neg q]at h;rcases aqg.1 h with h|h;grind
  rcases RL r x y e h with h|h <;>grind
variable {κ υ:Type}[DecidableEq κ]in
theorem MH:∀ (l:List (κ×υ)) (x:κ) (y:υ),i6 l x=some y->(x,y)∈l
 |(a,b)::r,x,y,h=>by
  unfold i6 at h;by_cases q:x=a
  grind
  rw[if_neg q]at h;exact aqj _ (MH r x y h)
variable {κ υ:Type}[DecidableEq κ]in
theorem T6 {l:List (κ×υ)}(h:(l.map Prod.fst).Nodup)(x:κ)(y:υ):((v9 l x y).map Prod.fst).Nodup:=by
 grind [BW]
structure SM (k:Tag)(f:k.T->Int)(m:List (k.T×Int)):Prop where
 get:∀ p,aF k .int m p=f p
 nd:(m.map Prod.fst).Nodup
 pos:∀ e∈m,1<=e.2
variable {k:Tag}
theorem SM.nil:SM k (λ_=>0) []:=⟨λ_=>rfl,arz,λ_ h=>by cases h⟩
variable {f:k.T->Int}{m:List (k.T×Int)}
theorem SM.put(h:SM k f m)(x:k.T){v:Int}(E:1<=v){g:k.T->Int}(O:∀ p,g p=if p=x then v else f p):SM k g (cy k .int m x v):=by
 refine⟨λp=>?_,T6 h.nd x v,λe he=>?_⟩;rw[nz,h.get,O];rcases RL (υ:=Int) m x v e he with rfl|he;exact E;exact h.pos e he
theorem SM.entry(h:SM k f m){e:k.T×Int}(E:e∈m):e.2=f e.1/\1<=f e.1:=by
 have h1:=RG m e h.nd E;have h2:=h.get e.1;unfold aF at h2;rw[h1]at h2;have O:e.2=f e.1:=h2;exact⟨O,O▸h.pos e E⟩
theorem SM.mem(h:SM k f m){p:k.T}(O:f p≠0):(p,f p)∈m:=by
 have h2:=h.get p;unfold aF at h2;cases E:i6 m p with
 |none=>rw[E]at h2;exact absurd h2.symm O
 |some v=>
  rw[E]at h2;have V:v=f p:=h2;exact V▸MH m p v E
def gP (r h:Int)(x:Order):Bool:= !x.S2&&x.index==r&&x.hour==h
def z9 (l:List Order)(r h:Int):Int:=fS (gP r h) l
variable {x:Order}
theorem aaP{r h:Int}{y:Order}(E:gP r h x=true)(hy:gP r h y=true):K x y:=by
 unfold gP at E hy;simp[ap9,beq_iff_eq]at E hy;exact⟨XM,XM,XN⟩
variable {p:Order->Bool}{l:List Order}
theorem FC(W:l.Pairwise λx y=>¬K x y)(V:∀ x y,p x=true->p y=true->K x y)(E:x∈l)(h:p x=true):fS p l=x.bn:=by
 obtain⟨i,hi,rfl⟩:=aqw E;refine aaA hi h λj X O=>?_;grind [List.pairwise_iff_getElem]
theorem aaQ(O:l.Pairwise λx y=>¬K x y)(E:x∈l)(V:x.S2=false):z9 l x.index x.hour=x.bn:=
 FC O (λ_ _ h1 h2=>aaP h1 h2) E (by grind [gP])
theorem adC(h:fS p l≠0):∃ x∈l,p x=true:=
 aqH λq=>h (oj λx E=>by
  grind)
theorem adD(E:l.Pairwise λx y=>¬K x y){r h:Int}(O:z9 l r h≠0):∃ x∈l,x.S2=false/\x.index=r/\x.hour=h/\x.bn=z9 l r h:=by
 have⟨x,hx,hp⟩:=adC O;have:=FC E (λ_ _ h1 h2=>aaP h1 h2) hx hp;unfold gP at hp;simp[ap9,aqA,beq_iff_eq]at hp;exact⟨x,hx,hp.1.1,hp.1.2,hp.2,this.symm⟩
theorem ahM{m:List Order}(O:m.Perm l)(E:m.Pairwise olt):srt aM l=m:=by
 have V:l.Pairwise λx y=>¬K x y:=oX O.symm (E.imp λ{_ _} q=>Jw q);exact aq0 (λa b _ _ h1 h2=>absurd h2 (λh2=>by grind [olt])) (aaM V) E ((z8 l).trans O.symm)
theorem OO {ρ σ:Type}{step:Nat->σ->ρ⊕σ}(J:Nat->σ->Prop):∀ (n i:Nat) (s:σ),J i s->(∀ j s,i<=j->j<i+n->J j s->∃ s',step j s=.inr s'/\J (j+1) s')->∃ s',aj step n i s=.inr s'/\J (i+n) s'
 |0,i,s,h,_=>⟨s,rfl,h⟩
 |n+1,i,s,h,hs=>by
  have⟨s1,e1,h1⟩:=hs i s (aqb _) XM h;have⟨s2,e2,h2⟩:=OO J n (i+1) s1 h1 λj s a b=>hs j s XM XM;grind [aj]
end Go.Sx
end
section
namespace Go.Sx
open Go.Proofs Tryz
open IntKind (i64)
def Xe (d:ai)(c:List Claim):qW d c:=λ_ h1 _ _=>eu _ _ _ λj s h2 E=>by
 refine⟨λh=>?_,λh=>?_,λ_ h=>?_⟩;grind
 grind
 grind [oc]
def OP (d:ai)(c:List Claim):b9 d c=0↔aB d=0/\c.length<=4096/\∀ k,k<c.length->iP d c k ()=.inr ():=by
 unfold b9;cases h1:(aB d !=0)with
 |true=>grind
 |false=>
  grind [gf]
def Jx (a b:Claim):Prop:=a.hour<b.hour\/a.hour=b.hour/\(a.att<b.att\/a.att=b.att/\(a.right<b.right\/a.right=b.right/\a.gl<b.gl))
def T7 {a b c:Claim}(h1:Jx a b)(h2:Jx b c):Jx a c:=by
 grind [Jx]
theorem ahN (a b c d:Int):ic [a,b,c,d]=if a≠0 then a else if b≠0 then b else if c≠0 then c else d:=by
 unfold ic;simp[aqc,aqJ,aj,uc];grind
def Xf (a b:Claim):c8 a b<0↔Jx a b:=by
 grind [c8,Jx,ahN,ka]
def okC (d:ai)(a:Claim):Bool:=letI b:=d.bl.getD a.right.toNat default;(((((((((decide (a.right>=0))&&(decide (a.right< (d.bl.length:Int))))&&(decide (a.gl>=0)))&&(decide (a.gl< (d.zs.length:Int))))&&(decide (a.hour>=0)))&&(decide (a.hour<d.hours)))&&(decide (a.bn>=1)))&&(decide (a.bn<=1073741824))))&&(b.kind==1)&&(b.att==a.att)
variable {d:ai}
def Aa{c:List Claim}{k:Nat}(V:k<4096):iP d c k ()=.inr ()↔okC d (c.getD k default)=true/\(0<k->Jx (c.getD (k - 1) default) (c.getD k default)):=by
 have hw:k > 0->(i64.wrap ((k:Int) - 1)).toNat=k - 1:=λh=>by grind [oc]
 have O:∀ X:Bool,((bif X then Sum.inl ()else Sum.inr ()):Unit⊕Unit)=.inr ()↔X=false:=λX=>XN
 unfold iP okC;rw[O];by_cases E:0<k
 rw[hw E,<-Xf];grind
 simp_all
theorem iS (d:ai)(c:List Claim):b9 d c=0↔aB d=0/\c.length<=4096/\(∀ a∈c,okC d a=true)/\c.Pairwise Jx:=by
 rw[OP];refine and_congr_right λ_=>and_congr_right λhl=>?_;constructor
 intro h;have O:=λk E=>(Aa XM).1 (h k E);refine⟨λa V=>?_,?_⟩;obtain⟨k,E,rfl⟩:=aqw V;grind
 have key:∀ (k j:Nat),j<k->k<c.length->Jx (c.getD j default) (c.getD k default):=by
  intro k;induction k with
  |zero=>omega
  |succ k W=>
   intro j h1 h2;have X:=(O (k+1) h2).2 XM;by_cases e:j=k
   grind
   exact T7 (W j XM XM) X
 grind [List.pairwise_iff_getElem]
 rintro⟨h1,h2⟩ k E;refine(Aa XM).2 ⟨?_,λY=>?_⟩;grind
 rw[ib _ _ E,ib _ _ (by omega:k - 1<c.length)];exact aqM.1 h2 _ _ _ _ XM
def wT (a:Claim):at3:= { hour:=a.hour,index:=a.gl,S2:=true}
def jK (p:at3):List Claim->Int
 | [] =>0|a::r=>(if p=wT a then a.bn else 0)+jK p r
theorem RM (p:at3)(a b:List Claim):jK p (a++b)=jK p a+jK p b:=by
 induction a with
 |nil=>simp[jK]|cons x r E=>grind [jK]
theorem Lg (p:at3)(c:List Claim)(h:∀ a∈c,1<=a.bn/\a.bn<=1073741824):0<=jK p c/\jK p c<=c.length*1073741824:=by
 induction c with
 |nil=>simp[jK]
 |cons x r O=>
  have h1:=O λa E=>h a (aqj _ E);grind [jK]
def Jy{a:Claim}(h:okC d a=true):1<=a.bn/\a.bn<=1073741824:=by
 simp_all [okC]
def g9 (c a b:Int)(x:Order):Bool:=(!x.S2&&x.index==c)&&decide (x.hour>=a)&&decide (x.hour<=b)
def yD {α:Type}(l:List α)(d r:α)(i k:Nat)(hi:i<l.length):(l.set i r).getD k d=if k=i then r else l.getD k d:=by
 grind
def cell (g:List (List Int))(i j:Nat):Int:=(g.getD i []).getD j 0
variable {l:List Order}
def Xg(V:atC d l){j:Nat}(W:j<l.length){p:Order->Bool}(O:∀ x,p x=true->x.hour=l[j].hour/\x.index=l[j].index/\x.S2=l[j].S2):fS p (l.take j)=0:=
 oj λx E=>by
  obtain⟨i,hi,rfl⟩:=aqw E;rw[ara]at hi;rw[List.getElem_take];cases h:p l[i]with
  |false=>rfl
  |true=>
   have⟨e1,e2,e3⟩:=O _ h;have:=V.uniq XM W e1 e2 e3;omega
def VB(E:atC d l)(p:Order->Bool)(j:Nat):0<=fS p (l.take j)/\fS p (l.take j)<=4398046511104:=by
 have W:=su (p:=p) λa O=>E.lit a (aqT (i:=j) O);have V:=E.len;grind
def aaR(E:atC d l)(p:Order->Bool):0<=fS p l/\fS p l<=4398046511104:=by
 have:=VB E p l.length;grind
def aaS(E:atC d l)(r:Int){a m b:Int}(h1:a<=m)(h2:m<=b+1):fS (g9 r a (m - 1)) l+fS (g9 r m b) l=fS (g9 r a b) l:=RE λx _=>by
 unfold g9;grind
@[go_sem] def du (c:List Claim)(e:Nat)(b:List (pq×Int)):Empty⊕(List (pq×Int)):=letI a:=c.getD e default;letI d:=({ index:=a.gl,hour:=a.hour}:pq);.inr (cy .dd .int b d (i64.wrap ((aF .dd .int b d)+a.bn)))
@[go_sem] def eH (c:List (pq×Int))(a:pq×Int)(b:List Order):Empty⊕(List Order):=.inr (b++([({ hour:=a.1.hour,index:=a.1.index,bn:=a.2,S2:=true}:Order)]))
def gE (c:List (pq×Int))(a:pq×Int)(b:List Order):Prop:=((b++([({ hour:=a.1.hour,index:=a.1.index,bn:=a.2,S2:=true}:Order)])).length*32<=dh)
def aA (c:List Claim):List Order:=(match aj (du c) c.length 0 ([])with| .inl x=>x.elim| .inr a=>(match cS (eH a) a ([])with| .inl x=>x.elim| .inr b=>(srt av b)))
def kI (c:List Claim):Prop:=(c.length<=aD->(∀ ee,aj (du c) c.length 0 ([])=.inr ee->(∀ L_1,L_1.Perm ee->(okL (eH ee) (gE ee) L_1 ([])/\(∀ s_1,cS (eH ee) L_1 ([])=.inr s_1->((apart av s_1)/\((srt av s_1)=(aA c))))))))
@[go_sem] def A6:FI:=(pR .B1 λc=>(pE (.det (kI c) (.nw .order (aA c)))))
theorem amC {p:Prop}(h:p:=by simp only[go_sem];all_goals exact clP):p:=h
theorem Ab:P0 prog 164 A6:=by
 have hG:=mG Q1 (co FB Q1);refine fE hG f164 (aZ λc=>(am (λhp=>?_)));dsimp only[an,kI]at hp;refine⟨nbl rfl,(XO 0 (LCR (ρ:=Empty) (σ:=(List (pq×Int))) 1 [] [0] (λX W=>⟨[(2,.v (.slice none 0 0)),(3,.os 0),(9,.rs .B1 c),(10,.i (c.length:Int)),(11,.i X)],[.mp .dd .int W none]⟩) (du c) pT c.length ([]) (c.length<=aD) ((·.elim)) ((·.elim))) (XO 2 (LCP (τ:=pq×Int) (ρ:=Empty) (σ:=(List Order)) 2 [.slot 2 (.row .order ([]))] [0,1,2] (λE O V=>⟨[(2,.os 2),(29,.ptr 1 0)],[.mp .dd .int (cB (aj (du c) c.length 0 ([]))) (some (1,none)),.mi (some 0) (cB (aj (du c) c.length 0 ([]))).length E O,.row .order V]⟩) (eH (cB (aj (du c) c.length 0 ([])))) (gE (cB (aj (du c) c.length 0 ([])))) (cB (aj (du c) c.length 0 ([]))) ([]) ((·.elim)) ((·.elim)) (λV=>⟨[(2,.os 2)],[.dead,.dead,.row .order V]⟩)) L0)),?_,?_⟩
 ·unfold aa f164;simp only[ak,true_and,and_true];refine⟨?_,?_⟩;refine bG aC hG (λ_=>rfl) (c.length:Int) eE (λhb0 X W aue _ hw hc=>⟨L0,ag _,aW (jl [0])⟩) λhb0 W hc=>aV (jl [0])
  ·refine QC (eT .dd,eT .int) 1 mixed aC hG kr (λ_=>rfl) λE O V hp1=>⟨L0,ag _,?_⟩
   ·by_cases Y:E=[]
    subst Y;exact ae2 (jl [0,1,5]) (jl [0,1,2])
    ·simp only[go_sem,Y];intro j hj1;obtain⟨auI,hq1⟩:=hp1 j hj1;unfold gE at hq1;all_goals exact fM (jl [0,1,5]) (jl [0,1,2])
 unfold aa f164;exact amC
@[go_sem] def bW (b:List Order)(a:Nat)(c:Unit):Int⊕Unit:=(bif(rh (b.getD a default))then .inl (a:Int)else .inr ())
def d7 (a:List Order):Int:=(match aj (bW a) a.length 0 ()with| .inl b=>b| .inr c=>(-1))
@[go_sem] def nM:FI:=(pR .order λa=>(pFn 166 (pE ((pE (.det True (.i (d7 a))))))))
theorem mW:P0 prog 244 nM:=by
 have hG:=mG (cp z7 Q1) Q1;refine fN hG f244 [.o] (aZ λO=>(qH (am ((am (λY=>?_))))));dsimp only[an]at Y;refine⟨nbl rfl,(XO 0 (LCR (ρ:=Int) (σ:=Unit) 0 [] [] (λV W=>⟨[(0,.rs .order O),(1,.fn 166 [] []),(7,.i (O.length:Int)),(8,.i V)],[]⟩) (bW O) pT O.length () (O.length<=aD) (λ_=>.ret) (λE=>⟨[(4,.i E)],[]⟩)) L0),?_,?_⟩;unfold aa f244;simp only[ak,true_and,and_true];refine bG aC hG (λ_=>rfl) (O.length:Int) eE (λhb0 V W X _ hw hc=>⟨L0,ag _,aW (jl [])⟩) λhb0 W hc=>aV (jl []);exact Ce @d7.eq_1
def bb (a:List Order):Bool:=(decide ((d7 a)>=0))
@[go_sem] def mb:FI:=(pR .order λa=>(pFn 166 (pE ((pE (.det True (.v (.bool (bb a)))))))))
theorem lK:P0 prog 165 mb:=by
 have hG:=mG (cn [.sl .order,.o] mW Q1) Q1;refine fN hG f165 [.o] (aZ λO=>(qH (am ((am (λE=>?_))))));dsimp only[an]at E;refine⟨nbl rfl,L0,ag _,?_⟩;exact Ce @bb.eq_1
def aO (d:ai)(c:List Claim):List Order×Int:=letI a:=aA c;(bif((b9 d c) !=0)then([],(b9 d c))else(bif(decide ((i64.wrap ((d.reaches.length:Int)*d.hours)) > 1024))then([],2)else(bif(bb a)then([],270)else(a,0))))
def mL (d:ai)(c:List Claim):Prop:=((qW d c)/\(((b9 d c) !=0)=false->(d.reaches.length<=aD->((decide ((i64.wrap ((d.reaches.length:Int)*d.hours)) > 1024))=false->(kI c)))))
@[go_sem] def Dl:FI:=(pD .al λd=>(pR .B1 λc=>(pE (.det (mL d c) (.tup [.rs .order ((aO d c).1),.i ((aO d c).2)])))))
theorem BY:P0 prog 108 Dl:=fN (mG (cn [.st .al,.sl .B1] F_ (cn [.sl .B1] Ab (cn [.sl .order,.o] lK Q1))) Q1) f108 [.sl .order,.o] (ap λd=>aZ λc=>am λE=>Pq @aO.eq_1 @mL.eq_1)
end Go.Sx
end
section
namespace Go.Sx
open Go.Lib Go.Proofs Go.Shelf Go.Sort
def oP (f h:Int):at3:= { hour:=h,index:=f,S2:=true}
def rj (c:List Claim)(f h:Int):Int:=jK (oP f h) c
def auY (c:List Claim):Prop:=c.length<=4096/\∀ a∈c,1<=a.bn/\a.bn<=1073741824
variable {c:List Claim}
def MI{j:Nat}(E:j<c.length)(f h:Int):rj (c.take (j+1)) f h=rj (c.take j) f h+(if oP f h=wT c[j]then c[j].bn else 0):=by
 unfold rj;rw[aqD E,RM];simp[jK]
def OQ(h:auY c)(f t:Int):0<=rj c f t/\rj c f t<=4398046511104:=by
 have h1:=Lg (oP f t) c h.2;have h2:=h.1;grind [rj]
theorem auY.take(h:auY c)(j:Nat):auY (c.take j):=⟨by rw[ara];have:=h.1;omega,λa E=>h.2 a (aqT E)⟩
theorem aaT {k:Tag}(m:List (k.T×Int))(x:k.T)(y:Int):(cy k .int m x y).length<=m.length+1:=by
 have:=congrArg List.length (BW m x y);show(v9 m x y).length<=_;grind
def VC(h:auY c):∃ m,aj (du c) c.length 0 []=.inr m/\SM .dd (λp=>rj c p.index p.hour) m/\m.length<=c.length:=by
 have⟨m,e,V,hn⟩:=OO (step:=du c) (λj m=>SM .dd (λp=>rj (c.take j) p.index p.hour) m/\m.length<=j) c.length 0 [] ⟨by simpa[rj,jK]using SM.nil,aqb _⟩ (λj m _ E ⟨V,hn⟩ =>by
  have E:j<c.length:=XM
  refine⟨_,rfl,?_,aqp (aaT _ _ _) XM⟩;rw[ib _ _ E];have h1:=OQ (h.take j) c[j].gl c[j].hour;have h2:=h.2 _ (aqL E);have W:=V.get ({ index:=c[j].gl,hour:=c[j].hour}:pq);simp at W;refine V.put _ (v:=_) ?_ λp=>?_;grind [ar]
  rw[W,ar XM XM,MI E];by_cases O:p=({ index:=c[j].gl,hour:=c[j].hour}:pq)
  subst O;rw[if_pos rfl,if_pos (by rfl)];rw[if_neg O,if_neg (λq=>O (by
   unfold oP wT at q;have⟨a,b⟩:=p;grind))]
  omega)
 simp_all
def toO (e:pq×Int):Order:= { hour:=e.1.hour,index:=e.1.index,bn:=e.2,S2:=true}
theorem Dm (m:List (pq×Int)):∀ (L:List (pq×Int)) (s:List Order),cS (eH m) L s=.inr (s++L.map toO)
 | [],s=>by simp[cS]
 |x::L,s=>by
  have e:eH m x s=.inr (s++[toO x]):=rfl;simp[cS,e];rw[Dm m L];simp
theorem MK (m:List (pq×Int)):∀ (L:List (pq×Int)) (s:List Order),s.length+L.length<=100000->okL (eH m) (gE m) L s
 | [],s,_=>trivial
 |x::L,s,h=>by
  have e:eH m x s=.inr (s++[toO x]):=rfl;rw[aqc]at h;refine⟨?_,λs' E=>?_⟩;grind [gE,dh]
  rw[e]at E;simp[aqW]at E;subst E;exact MK m L _ (by simp;omega)
theorem Jz {m:List (pq×Int)}(h:(m.map Prod.fst).Nodup):(m.map toO).Pairwise λx y=>¬K x y:=by
 rw[arU];unfold List.Nodup at h;rw[arU]at h;refine h.imp λ{a b} q k=>q ?_;have⟨⟨a1,a2⟩,a3⟩:=a;have⟨⟨b1,b2⟩,b3⟩:=b;have h1:a2=b2:=k.1;have h2:a1=b1:=k.2.1;rw[h1,h2]
theorem JA {x y:Order}(E:x.S2=true)(hy:y.S2=true):Xd x y↔olt x y:=by
 grind [Xd,olt,A4,OK]
theorem uZ (l:List Order):(srt av l).Perm l:=arc _ _
variable {l:List Order}
theorem OS(X:∀ x∈l,x.S2=true)(h:l.Pairwise λx y=>¬K x y):(srt av l).Pairwise olt:=by
 have h1:(srt av l).Pairwise λx y=>(!(ltOf av y x))=true:=by
  refine aq2 (λa b c h1 h2=>?_) (λa b=>?_) l;simp[aqA]at h1 h2 |-;exact lp.ntrans _ _ _ h2 h1;cases q:ltOf av b a with
  |false=>rfl
  |true=>
   cases E:ltOf av a b with
   |false=>rfl|true=>have:=lp.trans _ _ _ q E;rw[lp.irrefl]at this;cases this
 have h2:=oX (uZ l) h;have V:∀ x∈srt av l,x.S2=true:=λx Y=>X x ((uZ l).mem_iff.1 Y);rw[aqM]at h1 h2 |-;intro i j hi hj O;have E:=h2 i j hi hj O;have W:¬olt (srt av l)[j] (srt av l)[i]:=λq=>by
  have:ltOf av (srt av l)[j] (srt av l)[i]=true:=by
   unfold ltOf;rw[decide_eq_true_eq];exact(yB _ _).2 ((JA (V _ (aqL _)) (V _ (aqL _))).2 q)
  grind
 exact aqH λq4=>E (Dj q4 W)
theorem adE{m:List Order}(O:∀ x∈l,x.S2=true)(h:l.Pairwise λx y=>¬K x y)(E:m.Perm l):srt av m=srt av l:=by
 have W:∀ x∈m,x.S2=true:=λx V=>O x (E.mem_iff.1 V);exact aq0 (λa b _ _ h1 h2=>absurd h2 (λh2=>by grind [olt])) (OS W (oX E h)) (OS O h) ((uZ m).trans (E.trans (uZ l).symm))
theorem ahO(E:∀ x∈l,x.S2=true)(h:l.Pairwise λx y=>¬K x y):apart av l:=λx O y hy h1 h2=>by
 refine ON h O hy (Dj (λq=>?_) λq=>?_);unfold ltOf at h1;rw[decide_eq_false_iff_not]at h1;exact h1 ((yB _ _).2 ((JA (E x O) (E y hy)).2 q));unfold ltOf at h2;rw[decide_eq_false_iff_not]at h2;exact h2 ((yB _ _).2 ((JA (E y hy) (E x O)).2 q))
theorem OU (m:List (pq×Int)):∀ x∈m.map toO,x.S2=true:=λx E=>by
 obtain⟨e,_,rfl⟩:=aq1.1 E;rfl
theorem BZ {p:at3}:∀ {c:List Claim},jK p c≠0->∃ a∈c,p=wT a
 | [],h=>absurd rfl h
 |a::r,h=>by
  by_cases q:p=wT a
  grind
  simp only[jK,if_neg q,Int.zero_add]at h;obtain⟨b,E,e⟩:=BZ h;grind
structure av0 (c:List Claim)(o:List Order):Prop where
 out:∀ x∈o,x.S2=true
 asc:o.Pairwise olt
 lit:∀ x∈o,x.bn=rj c x.index x.hour/\1<=x.bn
 all:∀ f h,rj c f h≠0->∃ x∈o,x.index=f/\x.hour=h
 src:∀ x∈o,∃ a∈c,a.gl=x.index/\a.hour=x.hour
 len:o.length<=c.length
theorem outs(h:auY c):av0 c (aA c):=by
 have⟨m,e,hm,hn⟩:=VC h;have X:aA c=srt av (m.map toO):=by
  grind [aA,Dm]
 rw[X];have E:∀ x,x∈srt av (m.map toO)↔∃ q∈m,toO q=x:=λx=>by grind [uZ]
 have lit:∀ x∈srt av (m.map toO),x.bn=rj c x.index x.hour/\1<=x.bn:=λx O=>by
  obtain⟨q,V,rfl⟩:=(E x).1 O;have:=hm.entry V;exact⟨this.1,hm.pos q V⟩
 refine⟨λx O=>?_,OS (OU m) (Jz hm.nd),lit,λf t W=>?_,λx O=>?_,?_⟩;obtain⟨q,V,rfl⟩:=(E x).1 O;rfl;exact⟨_,(E _).2 ⟨_,hm.mem (p:= { index:=f,hour:=t}) W,rfl⟩,rfl,rfl⟩;have h1:=lit x O;have⟨a,ha,ea⟩:=BZ (p:=oP x.index x.hour) (c:=c) (by show rj c _ _≠0;omega);grind [oP,wT]
 rw[(uZ _).length_eq,aq5];exact hn
theorem Xh(h:auY c):kI c:=by
 intro _ m O L W;have⟨m',e,hm',hn⟩:=VC h;rw[e]at O;simp[aqW]at O;subst O;have X:=W.length_eq;have h1:=h.1;refine⟨MK _ L [] (by simp;omega),λs E=>?_⟩;rw[Dm]at E;simp[aqs,aqW]at E;subst E;have V:(L.map toO).Perm (m'.map toO):=W.map _;refine⟨ahO (OU L) (oX V (Jz hm'.nd)),?_⟩;rw[adE (OU m') (Jz hm'.nd) V];grind [aA,Dm]
end Go.Sx
end
