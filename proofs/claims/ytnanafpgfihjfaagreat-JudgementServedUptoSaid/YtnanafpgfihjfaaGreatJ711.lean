/- Part of the proof that the law JudgementServed returns true and leaves its arguments as they were, for all arguments of bulk at most 1048576 (the Upto form). -/
import Derived.Test.YtnanafpgfihjfaaGreatJ710
import Derived.Test.YtnanafpgfihjfaaGreatJ708
import Derived.Test.YtnanafpgfihjfaaGreatJ707
import Derived.Test.YtnanafpgfihjfaaGreatJ706
import Derived.Test.YtnanafpgfihjfaaGreatJ709
set_option linter.all false
set_option maxHeartbeats 4000000
set_option maxRecDepth 100000
section
namespace Go.Sx
open Go.Proofs
def tot:List Claim->Int
 | [] =>0|x::l=>x.litres+tot l
theorem Em:∀ l m:List Claim,tot (l++m)=tot l+tot m
 | [],m=>by simp[tot]
 |x::l,m=>by rw[aiF,tot,tot,Em l m];omega
theorem xU:∀ l:List Claim,tot (l.filter fun x=>!ay x)=tot l
 | [] =>rfl
 |x::l=>by
  by_cases hx:x.litres=0
  rw[ajh (by unfold ay;simp[hx]),xU l,tot,hx];omega;rw[aji (by unfold ay;simp[hx]),tot,tot,xU l]
theorem NF:∀ {l:List Claim},(∀ y∈l,0<=y.litres)->0<=tot l
 | [],_=>by simp[tot]
 |x::l,h=>by have:=h x (by simp);have:=NF fun y hy=>h y (aiz _ hy);rw[tot];omega
theorem Uh:∀ {l:List Claim},(∀ y∈l,0<=y.litres)->∀ y∈l,y.litres<=tot l
 | [],_,y,hy=>by cases hy
 |x::l,h,y,hy=>by
  have hx:=h x (by simp);have hl:∀ y∈l,0<=y.litres:=fun y hy=>h y (aiz _ hy);rw[tot];rcases aiu.1 hy with rfl|hy;have:=NF hl;omega;have:=Uh hl y hy;omega
theorem LL (x:Claim):∀ l:List Claim,tot (tz x l)=tot l+x.litres
 | [] =>by simp[tz,tot]
 |y::r=>by
  grind [tz,tot,nG]
theorem Cb (x:Claim):∀ l:List Claim,tot (g8 l x)=tot l+x.litres
 | [] =>LL x []
 |y::l=>by
  rw[uR];split
  rw[tot,Cb x l,tot];omega;exact LL x (y::l)
theorem LM {x z:Claim}:∀ {l:List Claim},z∈tz x l->(z.right=x.right/\z.farm=x.farm)\/z∈l
 | [],h=>by
  grind [tz]
 |y::r,h=>by
  rw[tz]at h;split at h
  grind
  rcases aiu.1 h with rfl|h;exact .inl ⟨rfl,rfl⟩;grind
theorem zk {x z:Claim}:∀ {l:List Claim},z∈g8 l x->(z.right=x.right/\z.farm=x.farm)\/z∈l
 | [],h=>LM (l:=[]) h
 |y::l,h=>by
  rw[uR]at h;split at h
  rcases aiu.1 h with rfl|h;grind
  rcases zk h with h|h <;>grind;exact LM h
theorem LN (x:Claim):∀ l:List Claim,(tz x l).length<=l.length+1
 | [] =>by simp[tz]
 |y::r=>by grind [tz]
theorem Cc (x:Claim):∀ l:List Claim,(g8 l x).length<=l.length+1
 | [] =>LN x []
 |y::l=>by
  rw[uR];split
  have:=Cc x l;grind;exact LN x (y::l)
def PlC (R F:Int)(y:Claim):Prop:=(0<=y.right/\y.right<R)/\0<=y.farm/\y.farm<F
theorem En {f o R F:Int}(ho:0<=o/\o<F):∀ (S:List Claim) (n:Int) (K G:List Claim),0<=n->(∀ y∈S,0<=y.litres/\PlC R F y)->(∀ y∈K,PlC R F y)->(∀ y∈G,PlC R F y)->
  tot (gv f o S n K G).1+tot (gv f o S n K G).2=tot K+tot S+tot G/\(∀ y∈(gv f o S n K G).1,PlC R F y)/\(∀ y∈(gv f o S n K G).2,PlC R F y)/\
  (gv f o S n K G).1.length<=K.length+S.length/\(gv f o S n K G).2.length<=G.length+(S.filter fun y=>y.farm==f).length
 | [],n,K,G,_,_,hK,hG=>by
  grind [gv,tot]
 |y::S,n,K,G,h0,hS,hK,hG=>by
  have hy:=hS y (by simp);have hS':∀ z∈S,0<=z.litres/\PlC R F z:=fun z hz=>hS z (by simp[hz]);have hm:=qW (a:=n) (b:=y.litres);have hm0:0<=bZ n y.litres:=by omega
  have hput:∀ z:Claim,PlC R F z->∀ w∈g8 K z,PlC R F w:=fun z hz w hw=>by
   rcases zk hw with⟨e1,e2⟩ |hw;grind [PlC]
   grind
  by_cases hf:y.farm=f
  rw[gv,if_pos hf,aji (by grind)];have k1:tot (if y.litres - bZ n y.litres > 0 then g8 K (nG y (y.litres - bZ n y.litres))else K)=tot K+(y.litres - bZ n y.litres)/\(∀ z∈(if y.litres - bZ n y.litres > 0 then g8 K (nG y (y.litres - bZ n y.litres))else K),PlC R F z)/\(if y.litres - bZ n y.litres > 0 then g8 K (nG y (y.litres - bZ n y.litres))else K).length<=K.length+1:=by
   by_cases hr:y.litres - bZ n y.litres > 0
   rw[if_pos hr];exact⟨Cb _ _,hput _ hy.2,Cc _ _⟩;grind
  have k2:tot (if bZ n y.litres > 0 then G++[C6 y o (bZ n y.litres)]else G)=tot G+bZ n y.litres/\(∀ z∈(if bZ n y.litres > 0 then G++[C6 y o (bZ n y.litres)]else G),PlC R F z)/\(if bZ n y.litres > 0 then G++[C6 y o (bZ n y.litres)]else G).length<=G.length+1:=by
   by_cases hr:bZ n y.litres > 0
   rw[if_pos hr];refine⟨by rw[Em];simp[tot,C6],fun z hz=>?_,by simp⟩;rcases aix.1 hz with hz|hz;exact hG z hz;rw[aiT.1 hz];exact⟨hy.2.1,ho⟩;grind
  obtain⟨q1,q2,q3,q4,q5⟩:=En ho S (n - bZ n y.litres) _ _ (by omega) hS' k1.2.1 k2.2.1;refine⟨?_,q2,q3,?_,?_⟩;grind [tot]
  grind
  grind
  rw[gv,if_neg hf,ajh (by grind)];have k1:tot (if y.litres > 0 then g8 K y else K)=tot K+y.litres/\(∀ z∈(if y.litres > 0 then g8 K y else K),PlC R F z)/\(if y.litres > 0 then g8 K y else K).length<=K.length+1:=by
   by_cases hr:y.litres > 0
   rw[if_pos hr];exact⟨Cb _ _,hput _ hy.2,Cc _ _⟩;grind
  obtain⟨q1,q2,q3,q4,q5⟩:=En ho S n _ G h0 hS' k1.2.1 hG;refine⟨?_,q2,q3,?_,q5⟩;grind [tot]
  grind
theorem C8 {R F:Int}:∀ (G K:List Claim),(∀ y∈K,PlC R F y)->(∀ y∈G,PlC R F y)->tot (G.foldl g8 K)=tot K+tot G/\(∀ y∈G.foldl g8 K,PlC R F y)/\(G.foldl g8 K).length<=K.length+G.length
 | [],K,hK,_=>⟨by simp[tot],hK,by simp⟩
 |x::G,K,hK,hG=>by
  obtain⟨p1,p2,p3⟩:=C8 G (g8 K x) (fun w hw=>by
   rcases zk hw with⟨e1,e2⟩ |hw;simp_all [PlC];grind) fun y hy=>hG y (by simp[hy])
  rw[aka];refine⟨?_,p2,?_⟩;grind [Cb,tot]
  have:=Cc x K;grind
theorem zQ (f:Int){R F:Int}:∀ (l:List Claim) (n:Int),0<=n->(∀ y∈l,0<=y.litres/\PlC R F y)->tot (p8 f n l)<=tot l/\(∀ y∈p8 f n l,PlC R F y)/\(p8 f n l).length=l.length
 | [],n,_,_=>⟨by simp[p8],(fun y hy=>by simp[p8]at hy),rfl⟩
 |x::r,n,h0,hl=>by
  have hx:=hl x (by simp);have hm:=qW (a:=n) (b:=x.litres);have hl':∀ y∈r,0<=y.litres/\PlC R F y:=fun y hy=>hl y (by simp[hy]);unfold p8;by_cases hf:x.farm=f
  rw[if_pos hf];obtain⟨p1,p2,p3⟩:=zQ f r (n - bZ n x.litres) (by omega) hl';refine⟨?_,fun y hy=>?_,by simp[p3]⟩;grind [tot,nG]
  rcases aiu.1 hy with rfl|hy;exact hx.2;grind
  rw[if_neg hf];obtain⟨p1,p2,p3⟩:=zQ f r n h0 hl';grind [tot]
theorem zl:∀ (N:Nat) (l:List Nat),l.Nodup->(∀ x∈l,x<N)->l.length<=N
 |0,[],_,_=>by simp
 |0,x::l,_,h=>absurd (h x (by simp)) (aju _)
 |N+1,l,hn,h=>by
  have h2:=zl N (l.erase N) (hn.erase N) fun x hx=>by
   grind
  grind
section
variable {ρ:Int->Int}{h:Int}
structure InvD (ρ:Int->Int)(h R F B:Int)(N:Nat)(l:List Claim):Prop where
 d:Dock ρ h l
 pl:∀ y∈l,PlC R F y
 tt:tot l<=B
 len:l.length<=N
variable {R F B:Int}{N:Nat}
theorem InvD.lit {l:List Claim}(i:InvD ρ h R F B N l):pc B l:=fun y hy=>by
 have h1:=i.d.pos y hy;have h2:=Uh (fun z hz=>by have:=i.d.pos z hz;omega) y hy;have h3:=i.tt;omega
theorem InvD.few {l:List Claim}(i:InvD ρ h R F B N l)(hR:R<=256)(f:Int):(l.filter fun y=>y.farm==f).length<=256:=by
 have hd:LH l:=(i.d.pile i.lit).d;have h1:((l.filter fun y=>y.farm==f).map fun y=>y.right.toNat).Nodup:=by
  refine ajG.2 ((akN ajw hd).imp_of_mem fun {a b} ha hb hab=>?_);have a1:=ai3.1 ha;have b1:=ai3.1 hb;have a2:a.farm=f:=by grind
  have b2:b.farm=f:=by grind
  have a3:=(i.pl a a1.1).1;have b3:=(i.pl b b1.1).1;omega
 have h2:=zl 256 _ h1 fun x hx=>by
  obtain⟨y,hy,rfl⟩:=aki.1 hx;have:=(i.pl y (ai3.1 hy).1).1;omega
 grind
theorem InvD.step {dd:District}{x:Judgement}(hx:JOk dd x)(h0:x.of_=0){l:List Claim}(i:InvD ρ h R F B N l)(hR:R<=256)(hF:(dd.farms.length:Int)=F)(hB:0<=B/\B<=4398046511104)(hN:N<=8192)(a2:List Judgement)(s_0:List Claim×List Claim):
  bb a2 s_0 x l=.inr (doJ x l)/\cL a2 s_0 x l/\InvD ρ h R F B (N+256) (doJ x l):=by
 have hlen:=i.len;obtain⟨e1,e2,e3⟩:=Q_ hx h0 hB i.d i.lit (by omega) a2 s_0;have hb:=i.lit;have hL:Lit l:=fun y hy=>by grind
 have hmB:l.length*40<=di:=by unfold di;omega
 have hp:∀ y∈l,0<=y.litres/\PlC R F y:=fun y hy=>⟨(hb y hy).1,i.pl y hy⟩;have hk:=hx.kind h0;have hn:0<=x.n/\x.n<4611686018427387904:=by
  by_cases hk1:x.kind=1
  rw[hx.none hk1];omega;have:=hx.n hk1 h0;omega
 refine⟨e1,e2,e3,?_,?_,?_⟩ <;>unfold doJ;all_goals
  have kl:∀ n:Int,n=x.n->tot (fA l x.farm n)<=B/\(∀ y∈fA l x.farm n,PlC R F y)/\(fA l x.farm n).length<=N+256:=fun n e=>by
   subst e;obtain⟨_,_,e⟩:=uQ x l hn.1 hn.2 hL i.d.s hmB;obtain⟨q1,q2,q3⟩:=zQ x.farm l x.n hn.1 hp;rw[e];refine⟨?_,fun y hy=>q2 y (ai3.1 hy).1,?_⟩;rw[xU];have:=i.tt;omega;have:=ajV (fun y=>!ay y) (p8 x.farm x.n l);omega
  have kg:x.kind=3->tot (kE l x.farm x.other x.n)<=B/\(∀ y∈kE l x.farm x.other x.n,PlC R F y)/\(kE l x.farm x.other x.n).length<=N+256:=fun hk3=>by
   have ho:=hx.other (by omega);obtain⟨_,e⟩:=vX l x.farm x.other x.n hB (by omega) hn.1 hn.2 hb;obtain⟨q1,q2,q3,q4,q5⟩:=En (R:=R) (F:=F) (f:=x.farm) (o:=x.other) ⟨ho.1,by omega⟩ l.reverse x.n [] [] hn.1 (fun y hy=>hp y (by simpa using hy)) (fun y hy=>by cases hy) (fun y hy=>by cases hy);obtain⟨p1,p2,p3⟩:=C8 (R:=R) (F:=F) (gv x.farm x.other l.reverse x.n [] []).2 (gv x.farm x.other l.reverse x.n [] []).1 q2 q3;have hrv:∀ m:List Claim,tot m.reverse=tot m:=fun m=>by
    induction m with
    |nil=>rfl|cons a m ih=>rw[List.reverse_cons,Em,ih];simp only[tot];omega
   have hfw:=i.few hR x.farm;rw[e];refine⟨?_,p2,?_⟩;rw[p1,q1,hrv];have:=i.tt;simp only[tot];omega;rw[List.filter_reverse,aj5]at q5;rw[aj5]at q4;simp only[aiI]at q4 q5;omega
  have kn:tot l<=B/\(∀ y∈l,PlC R F y)/\l.length<=N+256:=⟨i.tt,i.pl,by omega⟩
 split
 exact(kl 0 (hx.none (by assumption)).symm).2.1;grind
 split
 exact(kl 0 (hx.none (by assumption)).symm).1;grind
 split
 exact(kl 0 (hx.none (by assumption)).symm).2.2;grind
end
def doH (j:List Judgement)(h:Int)(l:List Claim):List Claim:=(j.filter fun x=>cU j x h).foldl (fun s x=>doJ x s) l
def exS (j:List Judgement):Nat->List Claim->List Claim
 |0,_=>[]|_+1,[] =>[]
 |n+1,y::r=>doH j y.hour (y::r.takeWhile fun z=>z.hour==y.hour)++exS j n (r.dropWhile fun z=>z.hour==y.hour)
def mF (c:List Claim)(h:Int):List Claim:=c.filter fun z=>z.hour==h
def He (f:Int->List Claim)(lo:Int):Nat->List Claim
 |0=>[]|n+1=>f lo++He f (lo+1) n
theorem Gk {f g:Int->List Claim}:∀ (n:Nat) (lo:Int),(∀ h,lo<=h->h<lo+n->f h=g h)->He f lo n=He g lo n
 |0,_,_=>rfl
 |n+1,lo,h=>by rw[He,He,h lo (by omega) (by omega),Gk n (lo+1) fun k h1 h2=>h k (by omega) (by omega)]
theorem Gl {f:Int->List Claim}{z:Claim}:∀ {n:Nat} {lo:Int},z∈He f lo n->∃ h,lo<=h/\h<lo+n/\z∈f h
 |0,_,hz=>by cases hz
 |n+1,lo,hz=>by
  rcases aix.1 hz with hz|hz;grind
  obtain⟨h,h1,h2,h3⟩:=Gl hz;grind
def exR (j:List Judgement)(c:List Claim)(lo:Int)(n:Nat):List Claim:=He (fun h=>doH j h (mF c h)) lo n
theorem Gm (j:List Judgement)(c:List Claim)(lo:Int)(n:Nat):exR j c lo (n+1)=doH j lo (mF c lo)++exR j c (lo+1) n:=rfl
theorem XA (x:Judgement):doJ x []=[]:=by
 unfold doJ;split
 rfl;split
 rfl;split <;>rfl
theorem Ph (j:List Judgement)(h:Int):doH j h []=[]:=by
 unfold doH;have:∀ L:List Judgement,L.foldl (fun s x=>doJ x s) []=[]:=fun L=>by
  induction L with
  |nil=>rfl|cons a L ih=>rw[aka,XA,ih]
 exact this _
theorem LO (j:List Judgement)(c:List Claim):∀ (m:Nat) (lo:Int) (n:Nat),(∀ z∈c,lo+m<=z.hour)->exR j c lo (m+n)=exR j c (lo+m) n
 |0,lo,n,_=>by simp
 |m+1,lo,n,h=>by
  have e:mF c lo=[]:=akj.2 fun z hz=>by have:=h z hz;simp;omega
  rw[show m+1+n=(m+n)+1 by omega,Gm,e,Ph,aiC,LO j c m (lo+1) n (fun z hz=>by have:=h z hz;omega)];congr 1;omega
theorem Ra (j:List Judgement){c c':List Claim}(n:Nat)(lo:Int)(h:∀ h,lo<=h->mF c h=mF c' h):exR j c lo n=exR j c' lo n:=Gk n lo fun k h1 _=>by rw[h k h1]
abbrev JQ (c:List Claim):Prop:=c.Pairwise fun a b=>a.hour<=b.hour
theorem Ik {y:Claim}:∀ {r:List Claim},JQ (y::r)->(r.takeWhile fun z=>z.hour==y.hour)=mF r y.hour/\(r.dropWhile fun z=>z.hour==y.hour)=r.filter fun z=>decide (y.hour<z.hour)
 | [],_=>⟨rfl,rfl⟩
 |z::r,h=>by
  have h1:=aiM.1 h;have h2:=aiM.1 h1.2;have hz:=h1.1 z (by simp);by_cases e:z.hour=y.hour
  have hr:JQ (y::r):=aiM.2 ⟨fun w hw=>h1.1 w (by simp[hw]),h2.2⟩;obtain⟨p1,p2⟩:=Ik hr;have e1:(z.hour==y.hour)=true:=by simpa using e
  have e2:decide (y.hour<z.hour)=false:=by simp;omega
  unfold mF at p1 |-;simp_all;have e1:¬ (z.hour==y.hour)=true:=by simpa using e
  have e3:∀ w∈z::r,y.hour<w.hour:=fun w hw=>by
   grind
  refine⟨?_,?_⟩;rw[List.takeWhile_cons_of_neg (p:=fun z:Claim=>z.hour==y.hour) e1];exact(akj.2 fun w hw=>by grind).symm;rw[List.dropWhile_cons_of_neg (p:=fun z:Claim=>z.hour==y.hour) e1];exact(ajJ.2 fun w hw=>by grind).symm
theorem Ui (j:List Judgement):∀ (k:Nat) (c:List Claim) (lo:Int) (n:Nat),c.length<k->JQ c->(∀ z∈c,lo<=z.hour/\z.hour<lo+n)->exS j k c=exR j c lo n
 |0,_,_,_,hk,_,_=>absurd hk (aju _)
 |k+1,[],lo,n,_,_,_=>by
  have:∀ (n:Nat) (lo:Int),exR j [] lo n=[]:=fun n=>by
   induction n with
   |zero=>intro _;rfl
   |succ n ih=>intro lo;rw[Gm,ih,show mF [] lo=[]from rfl,Ph];rfl
  rw[this];rfl
 |k+1,y::r,lo,n,hk,hs,hr=>by
  have hy:=hr y (by simp);have h1:=aiM.1 hs;obtain⟨m,hm⟩:∃ m:Nat,y.hour=lo+m:=⟨(y.hour - lo).toNat,by omega⟩;obtain⟨n',hn'⟩:∃ n':Nat,n=m+(n'+1):=⟨n - m - 1,by omega⟩;obtain⟨p1,p2⟩:=Ik hs;have hall:∀ z∈y::r,y.hour<=z.hour:=fun z hz=>by
   grind
  rw[hn',LO j (y::r) m lo (n'+1) (fun z hz=>by grind),Gm,exS,<-hm,p1,p2];have e1:mF (y::r) y.hour=y::mF r y.hour:=aji (by simp);rw[e1];congr 1
  have hlen:(r.filter fun z=>decide (y.hour<z.hour)).length<k:=by
   grind
  rw[Ui j k _ (y.hour+1) n' hlen (akN ajw h1.2) (fun z hz=>by
   grind)]
  refine Ra j n' _ fun h hh=>?_;unfold mF;rw[ajh (by simp;omega),ake];grind
section
variable {ρ:Int->Int}{h R F B:Int}{N:Nat}
theorem Pi:∀ m:List Claim,tot m.reverse=tot m
 | [] =>rfl
 |a::m=>by rw[List.reverse_cons,Em,Pi m];simp only[tot];omega
theorem Cd {nm:Int->Bool}{f:Int}(hf:nm f=true):∀ (l:List Claim) (n:Int),(p8 f n l).filter (fun y=>!nm y.farm)=l.filter fun y=>!nm y.farm
 | [],_=>rfl
 |x::r,n=>by
  unfold p8;by_cases e:x.farm=f
  simp_all [nG,Cd];rw[if_neg e];by_cases e2:nm x.farm=true
  simp_all [Cd];simp_all [Cd]
theorem JS (nm:Int->Bool):∀ (l:List Claim) (r p:Int),amt (l.filter fun y=>!nm y.farm) r p=if nm p=true then 0 else amt l r p
 | [],r,p=>by simp[amt]
 |x::l,r,p=>by
  have ih:=JS nm l r p;by_cases e:nm x.farm=true
  rw[ajh (by simp[e]),ih];split
  rfl;rename_i hp;have:¬ (x.right=r/\x.farm=p):=fun q=>hp (by grind);rw[amt,if_neg this];omega;have e':nm x.farm=false:=by simpa using e
  rw[aji (by simp[e']),amt,ih,amt];grind
theorem Dock.filter {l:List Claim}(d:Dock ρ h l)(p:Claim->Bool):Dock ρ h (l.filter p):=
 ⟨d.s.sublist ajw,fun y hy=>d.rk y (ai3.1 hy).1,fun y hy=>d.hr y (ai3.1 hy).1,fun y hy=>d.pos y (ai3.1 hy).1⟩
theorem Il {dd:District}{x:Judgement}(hx:JOk dd x)(h0:x.of_=0){l:List Claim}(i:InvD ρ h R F B N l)(hB:0<=B/\B<=4398046511104)(hN:N<=8192)(hd:Dock ρ h (doJ x l)):
  (∀ nm:Int->Bool,nm x.farm=true->(3<=x.kind->nm x.other=true)->(doJ x l).filter (fun y=>!nm y.farm)=l.filter fun y=>!nm y.farm)/\tot (doJ x l)<=tot l/\(x.kind≠1->x.kind≠2->tot (doJ x l)=tot l):=by
 have hlen:=i.len;have hb:=i.lit;have hL:Lit l:=fun y hy=>by grind
 have hmB:l.length*40<=di:=by unfold di;omega
 have hp:∀ y∈l,0<=y.litres/\PlC R F y:=fun y hy=>⟨(hb y hy).1,i.pl y hy⟩;have hk:=hx.kind h0;have hn:0<=x.n/\x.n<4611686018427387904:=by
  by_cases hk1:x.kind=1
  rw[hx.none hk1];omega;have:=hx.n hk1 h0;omega
 have nz:(l.filter fun y=>!ay y)=l:=ajJ.2 fun y hy=>by
  have:=i.d.pos y hy;grind [ay]
 have kl:∀ n:Int,n=x.n->(∀ nm:Int->Bool,nm x.farm=true->(fA l x.farm n).filter (fun y=>!nm y.farm)=l.filter fun y=>!nm y.farm)/\tot (fA l x.farm n)<=tot l:=fun n e=>by
  subst e;obtain⟨_,_,e⟩:=uQ x l hn.1 hn.2 hL i.d.s hmB;refine⟨fun nm hf=>?_,?_⟩;rw[e,ake];have:(fun a=>(!nm a.farm&& !ay a))=fun a:Claim=>(!ay a&& !nm a.farm):=by grind
  rw[this,<-ake,Cd hf,ake];grind [List.filter_filter]
  rw[e,xU];exact(zQ x.farm l x.n hn.1 hp).1
 unfold doJ at hd |-;by_cases k1:x.kind=1
 rw[if_pos k1];obtain⟨q1,q2⟩:=kl 0 (hx.none k1).symm;simp_all;rw[if_neg k1]at hd |-;by_cases k2:x.kind=2
 simp_all;rw[if_neg k2]at hd |-;by_cases k3:x.kind=3
 rw[if_pos k3]at hd |-;have ho:=hx.other (by omega);obtain⟨_,e⟩:=vX l x.farm x.other x.n hB (by omega) hn.1 hn.2 hb;have q:=En (R:=R) (F:=max F (x.other+1)) (f:=x.farm) (o:=x.other) ⟨ho.1,by omega⟩ l.reverse x.n [] [] hn.1 (fun y hy=>⟨(hp y (by grind)).1,(hp y (by grind)).2.1,(hp y (by grind)).2.2.1,by have:=(hp y (by grind)).2.2.2;omega⟩) (fun y hy=>by cases hy) (fun y hy=>by cases hy);have p1:=(C8 (R:=R) (F:=max F (x.other+1)) (gv x.farm x.other l.reverse x.n [] []).2 (gv x.farm x.other l.reverse x.n [] []).1 q.2.1 q.2.2.1).1;have hR:∀ y∈l.reverse,y.rank=ρ y.right/\y.hour=h/\0<=y.litres:=fun y hy=>by
  have hy:y∈l:=by grind
  have:=i.d.pos y hy;exact⟨i.d.rk y hy,i.d.hr y hy,by omega⟩
 obtain⟨g1,g2,g3⟩:=JO (ρ:=ρ) (h:=h) (f:=x.farm) (o:=x.other) l.reverse x.n [] [] hn.1 hR ⟨List.Pairwise.nil,(fun y hy=>by cases hy),(fun y hy=>by cases hy),(fun y hy=>by cases hy)⟩ ⟨(fun y hy=>by cases hy),(fun y hy=>by cases hy),(fun y hy=>by cases hy),(fun y hy=>by cases hy)⟩;obtain⟨_,g5⟩:=JP _ _ g1 g2;have ht:tot (kE l x.farm x.other x.n)=tot l:=by
  grind [Pi,tot]
 refine⟨fun nm a1 a2=>?_,by omega,fun _ _=>ht⟩;refine C5 (hd.filter _) (i.d.filter _) fun r p=>?_;rw[JS,JS];split
 rfl;rename_i hnp;have n1:p≠x.farm:=fun q=>hnp (by grind);have n2:p≠x.other:=fun q=>hnp (by grind);have g4:=g3 r p;rw[if_neg n1,if_neg n1]at g4;rw[e,g5,Ca (l:=(gv x.farm x.other l.reverse x.n [] []).2) (fun y hy q=>n2 (by rw[<-q.2];exact g2.fm y hy))];have:amt l.reverse r p=amt l r p:=Gh (List.reverse_perm l) r p;grind [amt]
 grind
theorem Pj {dd:District}(a2:List Judgement)(s_0:List Claim×List Claim)(hR:R<=256)(hF:(dd.farms.length:Int)=F)(hB:0<=B/\B<=4398046511104):∀ (L:List Judgement) (N:Nat) (l:List Claim),(∀ x∈L,JOk dd x/\x.of_=0)->InvD ρ h R F B N l->N+256*L.length<=8192->
  (okL (bb a2 s_0) (cL a2 s_0) L l/\dR (bb a2 s_0) L l=.inr (L.foldl (fun s x=>doJ x s) l))/\InvD ρ h R F B (N+256*L.length) (L.foldl (fun s x=>doJ x s) l)/\
  (∀ nm:Int->Bool,(∀ x∈L,nm x.farm=true/\(3<=x.kind->nm x.other=true))->(L.foldl (fun s x=>doJ x s) l).filter (fun y=>!nm y.farm)=l.filter fun y=>!nm y.farm)/\tot (L.foldl (fun s x=>doJ x s) l)<=tot l/\((∀ x∈L,x.kind≠1/\x.kind≠2)->tot (L.foldl (fun s x=>doJ x s) l)=tot l)
 | [],N,l,_,i,_=>⟨⟨trivial,rfl⟩,by simpa using i,fun _ _=>rfl,ajc _,fun _=>rfl⟩
 |x::L,N,l,hx,i,hN=>by
  have h1:=hx x (by simp);simp only[ais]at hN |-;obtain⟨e1,e2,e3⟩:=i.step h1.1 h1.2 hR hF hB (by omega) a2 s_0;obtain⟨f1,f2,f3⟩:=Il h1.1 h1.2 i hB (by omega) e3.d;obtain⟨⟨q1,q2⟩,q3,q4,q5,q6⟩:=Pj a2 s_0 hR hF hB L (N+256) (doJ x l) (fun y hy=>hx y (by simp[hy])) e3 (by omega);rw[aka];refine⟨⟨⟨e2,fun s' e=>?_⟩,?_⟩,?_,fun nm hnm=>?_,by omega,fun hk=>?_⟩;grind
  grind [dR]
  grind
  simp_all;grind
end
theorem Rb (j:List Judgement)(h:Int):iv j h ((aC j h).map wq):=by
 have e:=jf j h;have key:∀ (R A:List Judgement) (k:Nat) (s:List Judgement),j=A++R->A.length=k->s=(A.filter fun x=>cU j x h)->
   okI (eD j h) (f_ j h ((aC j h).map wq)) R.length k s:=fun R=>by
  induction R with
  |nil=>exact fun A k s _ _ _=>trivial
  |cons y R ih=>
   intro A k s hj hk hs;have g:j.getD k default=y:=by grind
   have hj':j=(A++[y])++R:=by rw[hj];simp
   refine⟨?_,fun s' e'=>?_⟩;grind [f_,C7]
   unfold eD at e';rw[g,C7]at e';grind
 intro _;refine⟨key j [] 0 [] rfl rfl rfl,fun s hs=>?_⟩;simp_all [vY]
structure Given (d:District)(j:List Judgement)(c:List Claim):Prop where
 js:∀ x∈j,JOk d x
 jl:j.length<=20
 cs:∀ x∈c,FineC d x
 st:c.Pairwise zW
 cl:c.length<=300
 rl:d.rights.length<=256
theorem Given.sub {d:District}{j:List Judgement}{c c':List Claim}(g:Given d j c)(h:c'.Sublist c):Given d j c':=
 ⟨g.js,g.jl,fun x hx=>g.cs x (h.subset hx),g.st.sublist h,aiR h.length_le g.cl,g.rl⟩
def rho (d:District)(r:Int):Int:=(d.rights.getD r.toNat default).rank
def Hf:Int:=322122547200
theorem Uj {b:Int}(hb:0<=b):∀ {l:List Claim},(∀ y∈l,y.litres<=b)->∀ {n:Nat},l.length<=n->tot l<=n*b
 | [],_,n,_=>by
  have:=ajp (show 0<=(n:Int) by omega) hb;grind [tot]
 |x::l,h,n,hn=>by
  have h1:=h x (by simp);obtain⟨m,rfl⟩:∃ m,n=m+1:=⟨n - 1,by grind⟩;have:=Uj hb (l:=l) (fun y hy=>h y (by simp[hy])) (n:=m) (by grind);grind [tot]
theorem Uk {a b:Claim}(h:zW a b)(e:a.hour=b.hour):tlt a b:=by
 unfold zW w8 at h;rcases h with h|h;omega;exact h.2
theorem Given.start {d:District}{j:List Judgement}{c:List Claim}(g:Given d j c){h:Int}(hh:∀ x∈c,x.hour=h):InvD (rho d) h d.rights.length d.farms.length Hf 300 c:=by
 refine⟨⟨?_,fun y hy=>(g.cs y hy).rank.symm,hh,fun y hy=>by have:=(g.cs y hy).l0;omega⟩,fun y hy=>?_,?_,g.cl⟩;exact g.st.imp_of_mem fun {a b} ha hb hab=>Uk hab (by grind);have:=g.cs y hy;exact⟨⟨this.r0,this.r1⟩,this.f0,this.f1⟩;have:=Uj (b:=1073741824) (by omega) (fun y hy=>(g.cs y hy).l1) g.cl;unfold Hf;omega
theorem Given.hour {d:District}{j:List Judgement}{c:List Claim}(g:Given d j c){h:Int}(hh:∀ x∈c,x.hour=h)(a2:List Judgement)(s_0:List Claim×List Claim):
  (okL (bb a2 s_0) (cL a2 s_0) (aC j h) c/\dR (bb a2 s_0) (aC j h) c=.inr (doH j h c))/\InvD (rho d) h d.rights.length d.farms.length Hf 5420 (doH j h c)/\
  (∀ nm:Int->Bool,(∀ x∈j,x.of_=0->nm x.farm=true/\(3<=x.kind->nm x.other=true))->(doH j h c).filter (fun y=>!nm y.farm)=c.filter fun y=>!nm y.farm)/\tot (doH j h c)<=tot c/\((∀ x∈j,x.of_=0->x.kind≠1/\x.kind≠2)->tot (doH j h c)=tot c):=by
 have hin:∀ x∈aC j h,x∈j/\x.of_=0:=fun x hx=>by
  rw[jf]at hx;have:=ai3.1 hx;exact⟨this.1,uS this.2⟩
 have hlen:(aC j h).length<=20:=by
  rw[jf];have:=ajV (fun x=>cU j x h) j;have:=g.jl;omega
 obtain⟨q1,q2,q3,q4,q5⟩:=Pj a2 s_0 (by have:=g.rl;omega) rfl (by unfold Hf;omega) (aC j h) 300 c (fun x hx=>⟨g.js x (hin x hx).1,(hin x hx).2⟩) (g.start hh) (by omega);have e:doH j h c=(aC j h).foldl (fun s x=>doJ x s) c:=by rw[jf];rfl
 rw[e];refine⟨q1,⟨q2.d,q2.pl,q2.tt,?_⟩,fun nm hnm=>q3 nm fun x hx=>hnm x (hin x hx).1 (hin x hx).2,q4,fun hk=>q5 fun x hx=>hk x (hin x hx).1 (hin x hx).2⟩;have:=q2.len;omega
theorem LP {q:Claim->Bool}:∀ {K:List Claim},(∀ y∈K,q y=true)->K.takeWhile q=K/\K.dropWhile q=[]
 | [],_=>⟨rfl,rfl⟩
 |y::K,h=>by
  obtain⟨p1,p2⟩:=LP fun z hz=>h z (aiz _ hz);simp_all
theorem ae4 (y:Claim)(r:List Claim):c9 (y::r) (y::r)/\(bif(decide ((ak (y::r) (y::r)) <0))then((y::r).length:Int)else(ak (y::r) (y::r)))=((y::r.takeWhile fun z=>z.hour==y.hour).length:Int):=by
 refine⟨fun _=>kU _ _ _ fun k _ _ _=>⟨by omega,by omega⟩,?_⟩;unfold ak;rcases B8 (step:=c6 (y::r) (y::r)) (y::r) default (fun z=>!(z.hour==y.hour)) (fun k _=>rfl)with⟨e,h⟩ | ⟨K,x,T,h1,e,h2,h3⟩;rw[e];obtain⟨p1,_⟩:=LP (q:=fun z=>z.hour==y.hour) (K:=r) fun z hz=>by grind
 rw[p1];rfl;rw[e];have hd:decide ((K.length:Int) <0)=false:=decide_eq_false (by omega);simp only[hd,cond_false];cases K <;>simp_all
theorem C9 (q:Claim->Bool):∀ r:List Claim,r.take (r.takeWhile q).length=r.takeWhile q/\r.drop (r.takeWhile q).length=r.dropWhile q
 | [] =>⟨rfl,rfl⟩
 |x::r=>by
  obtain⟨p1,p2⟩:=C9 q r;by_cases h:q x=true <;>simp_all
theorem Im (q:Claim->Bool):∀ (r:List Claim),∀ x∈r.takeWhile q,q x=true
 | [],x,hx=>by cases hx
 |y::r,x,hx=>by
  by_cases h:q y=true
  rw[aks h]at hx;rcases aiu.1 hx with rfl|hx;exact h;exact Im q r x hx;simp_all
section
variable {d:District}{j:List Judgement}
theorem Given.head {y:Claim}{r:List Claim}(g:Given d j (y::r)):Given d j (y::r.takeWhile fun z=>z.hour==y.hour)/\(∀ x∈(y::r.takeWhile fun z=>z.hour==y.hour),x.hour=y.hour)/\Given d j (r.dropWhile fun z=>z.hour==y.hour)/\(r.takeWhile fun z=>z.hour==y.hour).length+(r.dropWhile fun z=>z.hour==y.hour).length=r.length:=by
 refine⟨g.sub (List.Sublist.cons_cons _ (List.takeWhile_sublist _)),fun x hx=>?_,g.sub ((List.dropWhile_sublist _).trans (List.sublist_cons_self _ _)),?_⟩;rcases aiu.1 hx with rfl|hx;rfl;simpa using Im _ r x hx;rw[<-aiK,List.takeWhile_append_dropWhile]
theorem LQ (a1:List Claim):∀ (k i:Nat) (R acc:List Claim),R.length<k->Given d j R->acc.length+5420*R.length<=1626000->
  okI (cW a1 j) (g7 a1 j) k i (R,acc)/\aq (cW a1 j) k i (R,acc)=.inl (acc++exS j k R)
 |0,_,_,_,hk,_,_=>absurd hk (aju _)
 |k+1,i,[],acc,_,_,_=>by
  refine⟨⟨fun _ h=>?_,fun s' e=>?_⟩,?_⟩;grind
  cases e;simp[aq,cW,exS]
 |k+1,i,y::r,acc,hk,g,hl=>by
  obtain⟨c1,c2⟩:=ae4 y r;obtain⟨g1,g2,g3,g4⟩:=g.head;obtain⟨⟨q1,q2⟩,q3,_⟩:=g1.hour g2 j (y::r,acc);obtain⟨t1,t2⟩:=C9 (fun z=>z.hour==y.hour) r;have hd:decide (((y::r).length:Int) > 0)=true:=decide_eq_true (by grind);have e1:((y::r).take (Int.toNat (((y::r.takeWhile fun z=>z.hour==y.hour).length:Nat):Int))).drop 0=y::r.takeWhile fun z=>z.hour==y.hour:=by
   simp_all
  have e2:((y::r).take (Int.toNat ((y::r).length:Int))).drop (Int.toNat (((y::r.takeWhile fun z=>z.hour==y.hour).length:Nat):Int))=r.dropWhile fun z=>z.hour==y.hour:=by
   simp_all
  have g0:(y::r).getD 0 default=y:=rfl;have hstep:cW a1 j i (y::r,acc)=.inr (r.dropWhile (fun z=>z.hour==y.hour),acc++doH j y.hour (y::r.takeWhile fun z=>z.hour==y.hour)):=by
   simp_all [cW]
  have hlen:=q3.len;have hcl:=g.cl;simp only[ais]at hk hl hcl;obtain⟨r1,r2⟩:=LQ a1 k (i+1) (r.dropWhile fun z=>z.hour==y.hour) (acc++doH j y.hour (y::r.takeWhile fun z=>z.hour==y.hour)) (by omega) g3 (by grind);refine⟨⟨fun _ _=>?_,fun s' e=>?_⟩,?_⟩;rw[c2,e1,g0];refine⟨c1,⟨by omega,by omega,by grind⟩,?_,⟨by omega,by grind⟩,Rb j y.hour,q1,fun s_1 hs=>?_⟩;grind [di]
  rw[q2]at hs;simp only[aiZ]at hs;subst hs;refine⟨by grind [di],fun _=>⟨by omega,by grind,by omega⟩⟩;grind
  grind [aq,exS]
theorem Gn (g:∀ x∈j,JOk d x)(hr:d.rights.length<=256)(h:Int)(l0:List Claim):∀ (R A:List Judgement) (k N:Nat) (s:List Claim),j=A++R->A.length=k->InvD (rho d) h d.rights.length d.farms.length Hf N s->N+256*R.length<=8192->okI (mL j h) (yd j h) R.length k s
 | [],_,_,_,_,_,_,_,_=>trivial
 |y::R,A,k,N,s,hj,hk,i,hN=>by
  have gd:j.getD k default=y:=by grind
  have hj':j=(A++[y])++R:=by rw[hj];simp
  simp only[ais]at hN;have hy:=g y (by rw[hj];simp);have hb:=i.lit;have hlen:=i.len;have hB:(0:Int)<=Hf/\Hf<=4398046511104:=by unfold Hf;omega
  have hL:Lit s:=fun y hy=>by grind
  have hmB:s.length*40<=di:=by unfold di;omega
  have hp:=fun(h0:y.of_=0) =>i.step hy h0 (by omega) rfl hB (by omega) j (s,s);refine⟨fun _ hc=>?_,fun s' e=>?_⟩;rw[gd]at hc |-;have h0:y.of_=0:=uS (by simpa using hc);have hn:0<=y.n/\y.n<4611686018427387904:=by
   by_cases hk1:y.kind=1
   rw[hy.none hk1];omega;have:=hy.n hk1 h0;omega
  have kl:=(uQ y s hn.1 hn.2 hL i.d.s hmB).1.2.2;refine⟨fun k1=>?_,fun _=>⟨fun _=>kl,fun _ k3=>?_⟩⟩;have k1:y.kind=1:=by grind
  rw[hy.none k1]at kl;exact kl;have k3:y.kind=3:=by grind
  exact(Pg y s (hy.other (by omega)).2.2 hB i.d hb (by omega) hn.1 hn.2).1.2.2;rw[Ij j h y k s gd]at e;simp only[aiZ]at e;subst e;refine Gn g hr h l0 R (A++[y]) (k+1) (N+256) _ hj' (by simp[hk]) ?_ (by omega);by_cases hc:cU j y h=true
  rw[if_pos hc];exact(hp (uS hc)).2.2;rw[if_neg hc];exact⟨i.d,i.pl,i.tt,by omega⟩
theorem JT (a1 acc A:List Claim)(y:Claim)(r:List Claim)(ha:a1=A++y::r)(hm:a1.length<1000):∀ (T K:List Claim) (n i:Nat),y::r=K++T->(∀ x∈K,x.hour=y.hour)->T.length<n->
  okI (dY a1 (acc,(A.length:Int))) (p5 a1 (acc,(A.length:Int))) n i ((A.length+K.length:Nat):Int)/\aq (dY a1 (acc,(A.length:Int))) n i ((A.length+K.length:Nat):Int)=.inl ((A.length+(K++T.takeWhile fun z=>z.hour==y.hour).length:Nat):Int)
 |T,K,0,_,_,_,hn=>absurd hn (aju _)
 |T,K,n+1,i,hT,hK,hn=>by
  have ga:a1.getD A.length default=y:=by grind
  have hla:a1.length=A.length+(K.length+T.length):=by grind
  have hpos:0< (K++T).length:=by grind
  rw[aiK]at hpos;refine⟨⟨fun _=>⟨fun h=>?_,fun _=>⟨by omega,?_⟩⟩,fun s' e=>?_⟩,?_⟩;grind
  omega;cases T with
  |nil=>
   simp_all [dY]
  |cons x T=>
   have gx:a1.getD (A.length+K.length) default=x:=by
    grind
   have hd:decide (((A.length+K.length:Nat):Int) < (a1.length:Int))=true:=decide_eq_true (by grind);simp only[dY,hd,aj_,air,gx,ga]at e;cases hx:x.hour==y.hour with
   |false=>grind
   |true=>
    rw[hx,cI (by omega) (by omega)]at e;simp only[cond_true,aiZ]at e;have:=JT a1 acc A y r ha hm T (K++[x]) n (i+1) (by rw[hT];simp) (fun z hz=>by
     grind) (by grind)
    grind
  cases T with
  |nil=>
   simp_all [aq,dY]
  |cons x T=>
   have gx:a1.getD (A.length+K.length) default=x:=by
    grind
   have hd:decide (((A.length+K.length:Nat):Int) < (a1.length:Int))=true:=decide_eq_true (by grind);simp only[aq,dY,hd,aj_,air,gx,ga];cases hx:x.hour==y.hour with
   |false=>
    simp_all
   |true=>
    simp only[cond_true];rw[cI (by omega) (by omega)];have:=JT a1 acc A y r ha hm T (K++[x]) n (i+1) (by rw[hT];simp) (fun z hz=>by
     grind) (by grind)
    rw[aiK,List.length_singleton]at this;grind [List.takeWhile_cons_of_pos]
theorem Pm (a1:List Claim)(hm:a1.length<=300):∀ (k i:Nat) (R A acc:List Claim),a1=A++R->R.length<k->Given d j R->acc.length+5420*R.length<=1626000->
  okI (eS a1 j) (p6 a1 j) k i (acc,(A.length:Int))/\aq (eS a1 j) k i (acc,(A.length:Int))=.inl (acc++exS j k R)
 |0,_,_,_,_,_,hk,_,_=>absurd hk (aju _)
 |k+1,i,[],A,acc,ha,_,_,_=>by
  have hd:decide ((A.length:Int) < (a1.length:Int))=false:=decide_eq_false (by rw[ha];simp);refine⟨⟨fun _ h=>?_,fun s' e=>?_⟩,?_⟩;grind
  simp_all [eS];simp_all [aq,eS,exS]
 |k+1,i,y::r,A,acc,ha,hk,g,hl=>by
  obtain⟨g1,g2,g3,g4⟩:=g.head;obtain⟨⟨q1,q2⟩,q3,_⟩:=g1.hour g2 j (y::r,acc);have hla:a1.length=A.length+(r.length+1):=by rw[ha];simp
  have hd:decide ((A.length:Int) < (a1.length:Int))=true:=decide_eq_true (by omega);have hc:=JT a1 acc A y r ha (by omega) (y::r) [] (a1.length+1) 0 rfl (fun x hx=>by cases hx) (by grind);rw[aiC,aks (by simp)]at hc;have c1:okI (dY a1 (acc,(A.length:Int))) (p5 a1 (acc,(A.length:Int))) (a1.length+1) 0 (A.length:Int):=hc.1;have c2:aq (dY a1 (acc,(A.length:Int))) (a1.length+1) 0 (A.length:Int)=.inl ((A.length+(y::r.takeWhile fun z=>z.hour==y.hour).length:Nat):Int):=hc.2;obtain⟨t1,t2⟩:=C9 (fun z=>z.hour==y.hour) r;have e1:(a1.take (Int.toNat ((A.length+(y::r.takeWhile fun z=>z.hour==y.hour).length:Nat):Int))).drop (Int.toNat (A.length:Int))=y::r.takeWhile fun z=>z.hour==y.hour:=by
   rw[air,air,ha,List.take_length_add_append,List.drop_left,ais,List.take_succ_cons,t1]
  have ga:a1.getD (Int.toNat (A.length:Int)) default=y:=by grind
  have hh:r6 (y::r.takeWhile fun z=>z.hour==y.hour) j y.hour=doH j y.hour (y::r.takeWhile fun z=>z.hour==y.hour):=by
   rw[Xz,jf];rfl
  have hstep:eS a1 j i (acc,(A.length:Int))=.inr (acc++doH j y.hour (y::r.takeWhile fun z=>z.hour==y.hour),((A.length+(y::r.takeWhile fun z=>z.hour==y.hour).length:Nat):Int)):=by
   simp_all [eS]
  have hlen:=q3.len;have hcl:=g.cl;simp only[ais]at hk hl hcl;have ha2:a1=(A++y::r.takeWhile fun z=>z.hour==y.hour)++r.dropWhile fun z=>z.hour==y.hour:=by
   simp_all
  obtain⟨r1,r2⟩:=Pm a1 hm k (i+1) (r.dropWhile fun z=>z.hour==y.hour) (A++y::r.takeWhile fun z=>z.hour==y.hour) (acc++doH j y.hour (y::r.takeWhile fun z=>z.hour==y.hour)) ha2 (by omega) g3 (by grind);rw[aiK]at r1 r2;refine⟨⟨fun _ _=>⟨c1,fun z hz=>?_,fun x hx=>?_⟩,fun s' e=>?_⟩,?_⟩;grind
  have hx:aq (dY a1 (acc,(A.length:Int))) (a1.length+1) 0 (A.length:Int)=.inl x:=hx;rw[c2]at hx;simp only[Sum.inl.injEq]at hx;subst hx;show(0<=(A.length:Int)/\(A.length:Int)<=_/\_)/\(0<=(A.length:Int)/\(A.length:Int) <_)/\B1 ((a1.take (Int.toNat _)).drop (Int.toNat (A.length:Int))) j (a1.getD (Int.toNat (A.length:Int)) default).hour/\(acc++r6 ((a1.take (Int.toNat _)).drop (Int.toNat (A.length:Int))) j (a1.getD (Int.toNat (A.length:Int)) default).hour).length*40<=di;rw[e1,ga];have hlj:=g.jl;refine⟨⟨by omega,by omega,?_⟩,⟨by omega,by omega⟩,?_,?_⟩;grind
  exact Gn g.js g.rl y.hour [] j [] 0 300 _ rfl rfl (g1.start g2) (by omega);grind [di]
  grind
  grind [aq,exS]
end
def dB (n:Int)(most:Int):Bool:=((decide (n>=0))&&(decide (n<=most)))
@[go_sem] def pd:List SV->Option Con:=(pI fun n=>(pI fun most=>(pE (.det True (.v (.bool (dB n most)))))))
theorem sW:FnOk Tryz.prog 129 pd:=by
 have hG:ConsOk Tryz.prog (mkG [] []):=av cg0 cg0;refine ax [.o] mixed am hG (fn:=Tryz.f129) (c:=aa Tryz.f129) kr kr kr kr (bY fun n=>(bY fun most=>(aj (fun hp=>?_))));dsimp only[aw]at hp;refine⟨nbl rfl,L0,ag _,?_⟩;unfold aa Tryz.f129;try unfold dB
 exact zq1
def fW (s_:Int)(t:Int):Bool:=((Bl .u64 s_ t) ==0)
@[go_sem] def pe:List SV->Option Con:=(pU fun s_=>(pU fun t=>(pE (.det True (.v (.bool (fW s_ t)))))))
theorem sX:FnOk Tryz.prog 81 pe:=by
 have hG:ConsOk Tryz.prog (mkG [] []):=av cg0 cg0;refine ax [.o] mixed am hG (fn:=Tryz.f81) (c:=aa Tryz.f81) kr kr kr kr (Nl fun s_=>(Nl fun t=>(aj (fun hp=>?_))));dsimp only[aw]at hp;refine⟨nbl rfl,L0,ag _,?_⟩;unfold aa Tryz.f81;try unfold fW
 exact zq1
@[go_sem] def sb (l_:List Int)(many:Int)(k_0:Nat)(s_0:Int×Int):Unit⊕(Int×Int):=(bif((decide ((l_.getD k_0 0)<=s_0.2)) ||(decide ((l_.getD k_0 0)>=many)))then .inl ()else .inr ((orI .u64 s_0.1 (Vy .u64 1 (l_.getD k_0 0))),(l_.getD k_0 0)))
def jJ (l_:List Int)(many:Int)(k_0:Nat)(s_0:Int×Int):Prop:=(((decide ((l_.getD k_0 0)<=s_0.2)) ||(decide ((l_.getD k_0 0)>=many)))=false->0<=(l_.getD k_0 0))
def jB (l_:List Int)(many:Int):Int×Bool:=(match aq (sb l_ many) l_.length 0 (0,(-1))with| .inl x_0_0=>(0,false) | .inr s_0=>(s_0.1,true))
def jg (l_:List Int)(many:Int):Prop:=(l_.length<=aI->okI (sb l_ many) (jJ l_ many) l_.length 0 (0,(-1)))
@[go_sem] def tA:List SV->Option Con:=(pR .int fun l_=>(pI fun many=>(pE (.det (jg l_ many) (.tup [.v (.int .u64 ((jB l_ many).1)),.v (.bool ((jB l_ many).2))])))))
theorem xe:FnOk Tryz.prog 130 tA:=by
 have hG:ConsOk Tryz.prog (mkG [] []):=av cg0 cg0;refine ax [.o,.o] mixed am hG (fn:=Tryz.f130) (c:=aa Tryz.f130) kr kr kr kr (bB fun l_=>(bY fun many=>(aj (fun hp=>?_))));dsimp only[aw]at hp;unfold jg at hp;refine⟨nbl rfl,(fun id st=>bif Nat.beq id 0 then some (LCR (ρ:=Unit) (σ:=(Int×Int)) 0 [] [] (fun k_0 s_0=>⟨[(1,.v (.int .i64 many)),(4,.v (.int .u64 s_0.1)),(6,.v (.int .i64 s_0.2)),(9,.rs .int l_),(10,.v (.int .i64 (l_.length:Int))),(11,.v (.int .i64 (k_0:Int)))],[]⟩) (sb l_ many) (jJ l_ many) l_.length (0,(-1)) (l_.length<=aI) (fun _=>.ret) (fun x_0_0=>⟨[(4,.v (.int .u64 0)),(5,.v (.bool false))],[]⟩) st)else none),?_,?_⟩;unfold aa Tryz.f130;simp only[ap,true_and,and_true];refine a8 mixed am hG kr (fun _=>rfl) (l_.length:Int) rfl iB (fun hb0 k_0 s_0 hlt0 hq0 hw hc=>⟨L0,ag _,?_⟩) (fun hb0 s_0 hc=>?_);unfold jJ at hq0;try simp only[hw,air]at hq0
 exact bT (jl []);exact bN (jl []);unfold aa Tryz.f130;try unfold jB
 exact zq1
end Go.Sx
end
section
namespace Go.Sx
@[go_sem] theorem Rc {ts:Tis}{G:Cons}{L:wF}{t:List (Nat×SV)}{h:List Ob}{Q:Ex->St->Prop}{id j:Nat}{c:Code}:exec ts G L (.block id (.block j c)) ⟨t,h⟩ Q=exec ts G L (.block j c) ⟨t,h⟩ (Ex.block id Q):=(rfl)
def pXU {α:Type 1}(k:Int->List SV->Option α):List SV->Option α
 | .ep [.v (.int .u64 n)] 0::r=>k n r|_=>none
@[go_sem] theorem aig {α:Type 1}{k:Int->List SV->Option α}{n:Int}{r:List SV}:pXU k (.ep [.v (.int .u64 n)] 0::r)=k n r:=(rfl)
theorem Pn {α:Type 1}{G:List SV->α->Prop}{k:Int->List SV->Option α}(h:∀ n l c,k n l=some c->G (.ep [.v (.int .u64 n)] 0::l) c):∀ l c,pXU k l=some c->G l c:=by
 intro l c hc;unfold pXU at hc;split at hc
 exact h _ _ _ hc;cases hc
end Go.Sx
end
section
namespace Go.Sx
open Go.Proofs
open IntKind (i64)
@[go_sem] def eE (a0:Cases)(k_0:Nat)(s_0:Int×Int):(Int×Int)⊕(Int×Int):=letI q0:=a0.sides.getD k_0 0;letI q1:=Vy .u64 1 (k_0:Int);(bif(!(dB q0 1))then .inl (s_0.1,s_0.2)else(bif(decide (q0=0))then .inr ((orI .u64 s_0.1 q1),s_0.2)else(bif(decide (q0=1))then .inr (s_0.1,(orI .u64 s_0.2 q1))else .inr default)))
def iM (a0:Cases)(k_0:Nat)(s_0:Int×Int):Prop:=letI q0:=a0.sides.getD k_0 0;((!(dB q0 1))=false->(((decide (q0=0))=true->0<=(k_0:Int))/\((decide (q0=0))=false->(((decide (q0=1))=true->0<=(k_0:Int))/\((decide (q0=1))=false->False)))))
@[go_sem] def p9 (a0:Cases)(s_0:Int×Int)(k_1:Nat)(s_1:List PrecedentsDecided×Int×Int×Int):(List PrecedentsDecided)⊕(List PrecedentsDecided×Int×Int×Int):=letI q0:=a0.cases.getD k_1 default;letI q4:=(a0.sides.length:Int);letI q1:=jB (q0.reason) q4;letI q2:=jB (q0.facts) q4;letI q3:=((s_1.1++([({ winner:=q0.winner,facts:=q2.1,reason:=q1.1}:PrecedentsDecided)])),q0.no,q0.hour,q0.winner);(bif(((((decide (q0.no<=s_1.2.1)) ||(!(dB (q0.no) 1048576))) ||(decide (q0.hour<s_1.2.2.1))) ||(!(dB (q0.hour) 4096))) ||(!(dB (q0.winner) 1)))then .inl s_1.1 else(bif(decide (q0.winner=0))then(bif(((!q2.2) ||(!q1.2)) ||(!(fW (q1.1) (Km .u64 (q2.1) s_0.1))))then .inl s_1.1 else .inr q3)else(bif(decide (q0.winner=1))then(bif(((!q2.2) ||(!q1.2)) ||(!(fW (q1.1) (Km .u64 (q2.1) s_0.2))))then .inl s_1.1 else .inr q3)else .inr default)))
def iN (a0:Cases)(s_0:Int×Int)(k_1:Nat)(s_1:List PrecedentsDecided×Int×Int×Int):Prop:=letI q0:=a0.cases.getD k_1 default;letI q1:=(a0.sides.length:Int);letI q3:=jB (q0.reason) q1;letI q4:=jB (q0.facts) q1;letI q2:=(s_1.1++([({ winner:=q0.winner,facts:=q4.1,reason:=q3.1}:PrecedentsDecided)])).length*24<=di;letI q5:=decide (q0.winner=0);letI q6:=decide (q0.winner=1);((((((decide (q0.no<=s_1.2.1)) ||(!(dB (q0.no) 1048576))) ||(decide (q0.hour<s_1.2.2.1))) ||(!(dB (q0.hour) 4096))) ||(!(dB (q0.winner) 1)))=false->(a0.sides.length<=aI->((jg (q0.facts) q1)/\(a0.sides.length<=aI->((jg (q0.reason) q1)/\((q5=true->((((!q4.2) ||(!q3.2)) ||(!(fW (q3.1) (Km .u64 (q4.1) s_0.1))))=false->q2))/\(q5=false->((q6=true->((((!q4.2) ||(!q3.2)) ||(!(fW (q3.1) (Km .u64 (q4.1) s_0.2))))=false->q2))/\(q6=false->False)))))))))
def j3 (a0:Cases):PrecedentsCourt×Int:=(bif((decide ((a0.sides.length:Int) > 32)) ||(decide ((a0.cases.length:Int) > 64)))then(({ favour:=(0,0),cases:=[]}:PrecedentsCourt),2)else(match aq (eE a0) a0.sides.length 0 (0,0)with| .inl x_0_0=>(({ favour:=(x_0_0.1,x_0_0.2),cases:=[]}:PrecedentsCourt),520) | .inr s_0=>(match aq (p9 a0 s_0) a0.cases.length 0 ([],(-1),0,0)with| .inl x_1_0=>(({ favour:=(s_0.1,s_0.2),cases:=x_1_0}:PrecedentsCourt),520) | .inr s_1=>(({ favour:=(s_0.1,s_0.2),cases:=s_1.1}:PrecedentsCourt),0))))
def iZ (a0:Cases):Prop:=letI q0:=eE a0;(a0.sides.length<=aI->(((decide ((a0.sides.length:Int) > 32)) ||(decide ((a0.cases.length:Int) > 64)))=false->(a0.sides.length<=aI->(okI q0 (iM a0) a0.sides.length 0 (0,0)/\(∀ s_0,aq q0 a0.sides.length 0 (0,0)=.inr s_0->(a0.cases.length<=aI->okI (p9 a0 s_0) (iN a0 s_0) a0.cases.length 0 ([],(-1),0,0)))))))
@[go_sem] def qX:List SV->Option Con:=(pD .cases fun a0=>(pE (.det (iZ a0) (.tup [.agg (cellsOf .precedentsCourt ((j3 a0).1)),.v (.int .i64 ((j3 a0).2))]))))
theorem zq87 {l0:List Nat}(a0:JL l0){p:Prop}(h:JL l0->p:=by intro ja;simp only[go_sem,Nat.reduceBEq,Nat.reduceLeDiff,Nat.reduceLT,decide_true,Nat.reduceAdd,Nat.reduceSub,Nat.reduceMul,Int.reduceLE,Int.reduceLT,Int.reduceToNat,Int.reduceNeg,reduceCtorEq,hc,hw,hs0,Int.reduceEq,Int.reduceBEq,decide_false];all_goals exact ke ja):p:=h a0
theorem zq88 {l0:List Nat}(a0:JL l0){p:Prop}(h:JL l0->p:=by intro ja;simp only[go_sem,Nat.reduceBEq,Nat.reduceLeDiff,Nat.reduceLT,decide_true,Nat.reduceAdd,Nat.reduceSub,Nat.reduceMul,Int.reduceLE,Int.reduceLT,Int.reduceToNat,Int.reduceNeg,reduceCtorEq,hc,hw,hs1,Int.reduceEq,Int.reduceBEq,decide_false];all_goals exact ke ja):p:=h a0
theorem zq89 {l0 l1:List Nat}(a0:JL l0)(a1:JL l1){p:Prop}(h:JL l0->JL l1->p:=by intro ja jb;simp only[go_sem,Nat.reduceBEq,Nat.reduceLeDiff,Nat.reduceLT,decide_true,Nat.reduceAdd,Nat.reduceSub,Nat.reduceMul,Int.reduceLE,Int.reduceLT,Int.reduceToNat,Int.reduceNeg,reduceCtorEq,hc,hw,hs0,Int.reduceEq,Int.reduceBEq,decide_false];all_goals exact nV ja jb):p:=h a0 a1
theorem zq90 {l0 l1:List Nat}(a0:JL l0)(a1:JL l1){p:Prop}(h:JL l0->JL l1->p:=by intro ja jb;simp only[go_sem,Nat.reduceBEq,Nat.reduceLeDiff,Nat.reduceLT,decide_true,Nat.reduceAdd,Nat.reduceSub,Nat.reduceMul,Int.reduceLE,Int.reduceLT,Int.reduceToNat,Int.reduceNeg,reduceCtorEq,hc,hw,hs1,Int.reduceEq,Int.reduceBEq,decide_false];all_goals exact nV ja jb):p:=h a0 a1
theorem uT:FnOk Tryz.prog 75 qX:=by
 have hG:ConsOk Tryz.prog (mkG [(81,pe),(129,pd),(130,fun l=>tA (bD [.sl .int,.o] l))] []):=av (cgc sX (cgc sW (cgc (xe.norm [.sl .int,.o]) cg0))) cg0;refine ax [.st .precedentsCourt,.o] mixed am hG (fn:=Tryz.f75) (c:=aa Tryz.f75) kr kr kr kr (a7 fun a0=>(aj (fun hp=>?_)));dsimp only[aw]at hp;unfold iZ at hp;refine⟨nbl rfl,(fun id st=>bif Nat.beq id 0 then some (LCR (ρ:=(Int×Int)) (σ:=(Int×Int)) 2 [] [0,1] (fun k_0 s_0=>⟨[(1,.ptr 0 0),(2,.ptr 1 0),(25,.rs .int a0.sides),(26,.v (.int .i64 (a0.sides.length:Int))),(27,.v (.int .i64 (k_0:Int)))],[.cells (cellsOf .cases a0),.cells [.v (.int .u64 s_0.1),.v (.int .u64 s_0.2),.v (.slice none 0 0)]]⟩) (eE a0) (iM a0) a0.sides.length (0,0) (a0.sides.length<=aI) (fun _=>.ret) (fun x_0_0=>⟨[(2,.ptr 1 0),(3,.v (.int .i64 520))],[.dead,.cells [.v (.int .u64 x_0_0.1),.v (.int .u64 x_0_0.2),.v (.slice none 0 0)]]⟩) st)else bif Nat.beq id 2 then some (LCR (ρ:=(List PrecedentsDecided)) (σ:=(List PrecedentsDecided×Int×Int×Int)) 3 [.cell 1 2 (.row .precedentsDecided ([]))] [0,1,2,3] (fun k_1 s_1=>⟨[(1,.ptr 0 0),(2,.ptr 1 0),(6,.ptr 2 0),(48,.rs .case a0.cases),(49,.v (.int .i64 (a0.cases.length:Int))),(50,.v (.int .i64 (k_1:Int)))],[.cells (cellsOf .cases a0),.cells [.v (.int .u64 (cy (aq (eE a0) a0.sides.length 0 (0,0))).1),.v (.int .u64 (cy (aq (eE a0) a0.sides.length 0 (0,0))).2),.os 3],.cells [.v (.int .i64 s_1.2.1),.v (.int .i64 s_1.2.2.1),.v (.int .i64 s_1.2.2.2),.any,.any],.row .precedentsDecided s_1.1]⟩) (p9 a0 (cy (aq (eE a0) a0.sides.length 0 (0,0)))) (iN a0 (cy (aq (eE a0) a0.sides.length 0 (0,0)))) a0.cases.length ([],(-1),0,0) (a0.cases.length<=aI) (fun _=>.ret) (fun x_1_0=>⟨[(2,.ptr 1 0),(3,.v (.int .i64 520))],[.dead,.cells [.v (.int .u64 (cy (aq (eE a0) a0.sides.length 0 (0,0))).1),.v (.int .u64 (cy (aq (eE a0) a0.sides.length 0 (0,0))).2),.os 3],.dead,.row .precedentsDecided x_1_0]⟩) st)else none),?_,?_⟩
 ·unfold aa Tryz.f75;simp only[ap,true_and,and_true];refine⟨?_,?_⟩
  ·refine a8 mixed am hG kr (fun _=>rfl) (a0.sides.length:Int) rfl iB (fun hb0 k_0 s_0 hlt0 hq0 hw hc=>⟨L0,ag _,?_⟩) (fun hb0 s_0 hc=>?_)
   ·unfold iM at hq0;try simp only[hw,air]at hq0
    by_cases hs0:(a0.sides.getD k_0 (0:Int))=0
    try simp only[hs0,decide_true,decide_false,Int.reduceEq,ait,ajD,forall_const,true_imp_iff,false_imp_iff,and_true,true_and,reduceCtorEq]at hq0
    exact zq87 (jl [0,1])
    ·have hn0:=decide_eq_false hs0;by_cases hs1:(a0.sides.getD k_0 (0:Int))=1
     try simp only[hs1,decide_true,decide_false,Int.reduceEq,ait,ajD,forall_const,true_imp_iff,false_imp_iff,and_true,true_and,reduceCtorEq]at hq0
     exact zq88 (jl [0,1])
     ·have hn1:=decide_eq_false hs1;simp only[go_sem,Nat.reduceBEq,Nat.reduceLeDiff,Nat.reduceLT,decide_true,Nat.reduceAdd,Nat.reduceSub,Nat.reduceMul,Int.reduceLE,Int.reduceLT,Int.reduceToNat,Int.reduceNeg,reduceCtorEq,hc,hw,hn0,hn1];all_goals (repeat' (first|with_reducible refine And.intro ?_ ?_|with_reducible intro _))
      all_goals first|exact ke (jl [0,1]) |(exfalso;simp_all;done)
   exact bN (jl [0,1])
  ·refine a8 mixed am hG kr (fun _=>rfl) (a0.cases.length:Int) rfl iB (fun hb1 k_1 s_1 hlt1 hq1 hw hc=>⟨L0,ag _,?_⟩) (fun hb1 s_1 hc=>?_)
   ·unfold iN at hq1;try simp only[hw,air]at hq1
    by_cases hs0:(a0.cases.getD k_1 (default:Case)).winner=0
    try simp only[hs0,decide_true,decide_false,Int.reduceEq,ait,ajD,forall_const,true_imp_iff,false_imp_iff,and_true,true_and,reduceCtorEq]at hq1
    exact zq89 (jl [0,1,2,6]) (jl [0,1,2,3])
    ·have hn0:=decide_eq_false hs0;by_cases hs1:(a0.cases.getD k_1 (default:Case)).winner=1
     try simp only[hs1,decide_true,decide_false,Int.reduceEq,ait,ajD,forall_const,true_imp_iff,false_imp_iff,and_true,true_and,reduceCtorEq]at hq1
     exact zq90 (jl [0,1,2,6]) (jl [0,1,2,3])
     ·have hn1:=decide_eq_false hs1;simp only[go_sem,Nat.reduceBEq,Nat.reduceLeDiff,Nat.reduceLT,decide_true,Nat.reduceAdd,Nat.reduceSub,Nat.reduceMul,Int.reduceLE,Int.reduceLT,Int.reduceToNat,Int.reduceNeg,reduceCtorEq,hc,hw,hn0,hn1];all_goals (repeat' (first|with_reducible refine And.intro ?_ ?_|with_reducible intro _))
      all_goals first|exact nV (jl [0,1,2,6]) (jl [0,1,2,3]) |(exfalso;simp_all;done)
   exact px (jl [0,1,2,6]) (jl [0,1,2,3])
 unfold aa Tryz.f75;try unfold j3
 exact zq1
def g9 (b:Cases)(l_:List Int)(side:Int):PrecedentsCourt×Int×Int:=letI q0:=j3 b;letI q1:=jB l_ (b.sides.length:Int);(bif(q0.2 !=0)then((q0.1),0,q0.2)else(bif(!q1.2)then((q0.1),0,520)else(bif(!(dB side 1))then((q0.1),0,1)else((q0.1),q1.1,0))))
def lu (b:Cases)(l_:List Int)(side:Int):Prop:=((iZ b)/\(((j3 b).2 !=0)=false->(b.sides.length<=aI->(jg l_ (b.sides.length:Int)))))
@[go_sem] def xf:List SV->Option Con:=(pD .cases fun b=>(pR .int fun l_=>(pI fun side=>(pE (.det (lu b l_ side) (.tup [.agg (cellsOf .precedentsCourt ((g9 b l_ side).1)),.v (.int .u64 ((g9 b l_ side).2.1)),.v (.int .i64 ((g9 b l_ side).2.2))]))))))
theorem Ce:FnOk Tryz.prog 79 xf:=by
 have hG:ConsOk Tryz.prog (mkG [(75,fun l=>qX (bD [.st .cases] l)),(129,pd),(130,fun l=>tA (bD [.sl .int,.o] l))] []):=av (cgc (uT.norm [.st .cases]) (cgc sW (cgc (xe.norm [.sl .int,.o]) cg0))) cg0;refine ax [.st .precedentsCourt,.o,.o] mixed am hG (fn:=Tryz.f79) (c:=aa Tryz.f79) kr kr kr kr (a7 fun b=>(bB fun l_=>(bY fun side=>(aj (fun hp=>?_)))));dsimp only[aw]at hp;unfold lu at hp;refine⟨nbl rfl,L0,ag _,?_⟩;unfold aa Tryz.f79;try unfold g9
 exact zq1
def kG (c:PrecedentsCourt)(x:PrecedentsDecided)(facts:Int):Int:=(bif(decide ((i64.wrap (1 - x.winner))=0))then(Bl .u64 (Km .u64 facts c.favour.1) x.facts)else(bif(decide ((i64.wrap (1 - x.winner))=1))then(Bl .u64 (Km .u64 facts c.favour.2) x.facts)else default))
def fB (c:PrecedentsCourt)(x:PrecedentsDecided)(facts:Int):Prop:=((decide ((i64.wrap (1 - x.winner))=0))=false->((decide ((i64.wrap (1 - x.winner))=1))=false->False))
@[go_sem] def oa:List SV->Option Con:=(pD .precedentsCourt fun c=>(pD .precedentsDecided fun x=>(pU fun facts=>(pE (.det (fB c x facts) (.v (.int .u64 (kG c x facts))))))))
theorem zq93 {p:Prop}(h:p:=by simp only[go_sem,Nat.reduceBEq,Nat.reduceLeDiff,Nat.reduceLT,decide_true,Nat.reduceAdd,Nat.reduceSub,Nat.reduceMul,Int.reduceLE,Int.reduceLT,Int.reduceToNat,Int.reduceNeg,reduceCtorEq,hs0,Int.reduceEq,Int.reduceBEq,decide_false];all_goals exact cl):p:=h
theorem zq94 {p:Prop}(h:p:=by simp only[go_sem,Nat.reduceBEq,Nat.reduceLeDiff,Nat.reduceLT,decide_true,Nat.reduceAdd,Nat.reduceSub,Nat.reduceMul,Int.reduceLE,Int.reduceLT,Int.reduceToNat,Int.reduceNeg,reduceCtorEq,hs1,Int.reduceEq,Int.reduceBEq,decide_false];all_goals exact cl):p:=h
theorem t_:FnOk Tryz.prog 82 oa:=by
 have hG:ConsOk Tryz.prog (mkG [] []):=av cg0 cg0;refine ax [.o] mixed am hG (fn:=Tryz.f82) (c:=aa Tryz.f82) kr kr kr kr (a7 fun c=>(a7 fun x=>(Nl fun facts=>(aj (fun hp=>?_)))));dsimp only[aw]at hp;unfold fB at hp;refine⟨nbl rfl,L0,ag _,?_⟩
 ·unfold aa Tryz.f82;try unfold kG
  by_cases hs0:(i64.wrap (1 - x.winner))=0
  try simp only[hs0,decide_true,decide_false,Int.reduceEq,ait,ajD,forall_const,true_imp_iff,false_imp_iff,and_true,true_and,reduceCtorEq]at hp
  exact zq93
  ·have hn0:=decide_eq_false hs0;by_cases hs1:(i64.wrap (1 - x.winner))=1
   try simp only[hs1,decide_true,decide_false,Int.reduceEq,ait,ajD,forall_const,true_imp_iff,false_imp_iff,and_true,true_and,reduceCtorEq]at hp
   exact zq94
   ·have hn1:=decide_eq_false hs1;simp only[go_sem,Nat.reduceBEq,Nat.reduceLeDiff,Nat.reduceLT,decide_true,Nat.reduceAdd,Nat.reduceSub,Nat.reduceMul,Int.reduceLE,Int.reduceLT,Int.reduceToNat,Int.reduceNeg,reduceCtorEq,hn0,hn1];all_goals (repeat' (first|with_reducible refine And.intro ?_ ?_|with_reducible intro _))
    all_goals first|exact cl|(exfalso;simp_all;done)
def gC (b:Cases):Int:=(j3 b).2
def gw (b:Cases):Prop:=(iZ b)
@[go_sem] def mc:List SV->Option Con:=(pD .cases fun b=>(pE (.det (gw b) (.v (.int .i64 (gC b))))))
theorem pf:FnOk Tryz.prog 64 mc:=by
 have hG:ConsOk Tryz.prog (mkG [(75,fun l=>qX (bD [.st .cases] l))] []):=av (cgc (uT.norm [.st .cases]) cg0) cg0;refine ax [.o] mixed am hG (fn:=Tryz.f64) (c:=aa Tryz.f64) kr kr kr kr (a7 fun b=>(aj (fun hp=>?_)));dsimp only[aw]at hp;unfold gw at hp;refine⟨nbl rfl,L0,ag _,?_⟩;unfold aa Tryz.f64;try unfold gC
 exact zq1
def p_ (x:PrecedentsDecided)(side_:Int)(facts_:Int)(c_:PrecedentsCourt):Bool:=(((x.winner==side_)&&(fW x.reason facts_))&&((kG c_ x facts_) ==0))
def iO (x:PrecedentsDecided)(side_:Int)(facts_:Int)(c_:PrecedentsCourt):Prop:=(((x.winner==side_)&&(fW x.reason facts_))=true->(fB c_ x facts_))
@[go_sem] def sY:List SV->Option Con:=(pD .precedentsDecided fun x=>(pX .int fun side_=>(pXU fun facts_=>(pX .precedentsCourt fun c_=>(pE (.det (iO x side_ facts_ c_) (.v (.bool (p_ x side_ facts_ c_)))))))))
theorem yl:FnOk Tryz.prog 80 sY:=by
 have hG:ConsOk Tryz.prog (mkG [(81,pe),(82,fun l=>oa (bD [.st .precedentsCourt,.st .precedentsDecided,.o] l))] []):=av (cgc sX (cgc (t_.norm [.st .precedentsCourt,.st .precedentsDecided,.o]) cg0)) cg0;refine ax [.o] mixed am hG (fn:=Tryz.f80) (c:=aa Tryz.f80) kr kr kr kr (a7 fun x=>(aP fun side_=>(Pn fun facts_=>(aP fun c_=>(aj (fun hp=>?_))))));dsimp only[aw]at hp;unfold iO at hp;refine⟨nbl rfl,L0,ag _,?_⟩;unfold aa Tryz.f80;try unfold p_
 exact zq1
theorem clW {p:Prop}(h:p:=by((repeat' (first|with_reducible refine And.intro ?_ ?_|with_reducible intro _)) <;>first|exact cl|(rename_i x hx;rcases x with x|x <;>simp only[go_sem,Nat.reduceBEq,Nat.reduceLeDiff,Nat.reduceLT,decide_true,Nat.reduceAdd,Nat.reduceSub,Nat.reduceMul,Int.reduceLE,Int.reduceLT,Int.reduceToNat,Int.reduceNeg,reduceCtorEq] <;>(simp only[*];done)))):p:=h
@[go_sem] def eT (l_:List PrecedentsDecided)(side_:Int)(facts_:Int)(c_:PrecedentsCourt)(k_0:Nat)(s_0:Int):(Int⊕Unit)⊕Int:=(bif(decide (s_0< (l_.length:Int)))then(bif(p_ (l_.getD (Int.toNat s_0) default) side_ facts_ c_)then .inl (.inl s_0)else .inr (i64.wrap (s_0+1)))else .inl (.inr ()))
def bP (l_:List PrecedentsDecided)(side_:Int)(facts_:Int)(c_:PrecedentsCourt)(k_0:Nat)(s_0:Int):Prop:=(l_.length<=aI->((decide (s_0< (l_.length:Int)))=true->((0<=s_0/\s_0< (l_.length:Int))/\(iO (l_.getD (Int.toNat s_0) default) side_ facts_ c_))))
def dM (l_:List PrecedentsDecided)(fr:Int)(side_:Int)(facts_:Int)(c_:PrecedentsCourt):Int×Bool:=(match aq (eT l_ side_ facts_ c_) (l_.length+1) 0 fr with| .inl (.inl x_0_0) =>(x_0_0,true) | .inl (.inr x_0_1) =>(0,false) | .inr s_0=>default)
def ca (l_:List PrecedentsDecided)(fr:Int)(side_:Int)(facts_:Int)(c_:PrecedentsCourt):Prop:=letI q0:=eT l_ side_ facts_ c_;(okI q0 (bP l_ side_ facts_ c_) (l_.length+1) 0 fr/\(∀ z_,aq q0 (l_.length+1) 0 fr≠ .inr z_))
@[go_sem] def iE:List SV->Option Con:=(pR .precedentsDecided fun l_=>(pI fun fr=>(pFn 80 (pX .int fun side_=>(pXU fun facts_=>(pX .precedentsCourt fun c_=>(pE ((pE (.det (ca l_ fr side_ facts_ c_) (.tup [.v (.int .i64 ((dM l_ fr side_ facts_ c_).1)),.v (.bool ((dM l_ fr side_ facts_ c_).2))])))))))))))
theorem zq97 {p:Prop}(h:p:=by simp only[go_sem,Nat.reduceBEq,Nat.reduceLeDiff,Nat.reduceLT,decide_true,Nat.reduceAdd,Nat.reduceSub,Nat.reduceMul,Int.reduceLE,Int.reduceLT,Int.reduceToNat,Int.reduceNeg,reduceCtorEq];all_goals exact clW):p:=h
theorem mS:FnOk Tryz.prog 77 iE:=by
 have hG:ConsOk Tryz.prog (mkG [(80,sY)] []):=av (cgc yl cg0) cg0;refine ax [.o,.o] mixed am hG (fn:=Tryz.f77) (c:=aa Tryz.f77) kr kr kr kr (bB fun l_=>(bY fun fr=>(bI (aP fun side_=>(Pn fun facts_=>(aP fun c_=>(aj ((aj (fun hp=>?_))))))))));dsimp only[aw]at hp;unfold ca at hp;refine⟨nbl rfl,(fun id st=>bif Nat.beq id 0 then some (LCV (ρ:=(Int⊕Unit)) (σ:=Int) 0 [] [] (fun k_0 s_0=>⟨[(0,.rs .precedentsDecided l_),(2,.fn 80 [] [.ep [.v (.int .i64 side_)] 0,.ep [.v (.int .u64 facts_)] 0,.ep (cellsOf .precedentsCourt c_) 0]),(8,.v (.int .i64 s_0))],[]⟩) (eT l_ side_ facts_ c_) (bP l_ side_ facts_ c_) (l_.length+1) fr (fun x=>match x with|(.inl _) =>.ret|(.inr _) =>.normal) (fun x=>match x with|(.inl x_0_0) =>⟨[(6,.v (.int .i64 x_0_0)),(7,.v (.bool true))],[]⟩ |(.inr x_0_1) =>⟨[],[]⟩) st)else none),?_,?_⟩;unfold aa Tryz.f77;simp only[ap,true_and,and_true];refine uB mixed am hG kr (fun _=>rfl) fun k_0 s_0 hq0=>⟨L0,ag _,?_⟩;unfold bP at hq0;exact nS (jl []);unfold aa Tryz.f77;try unfold dM
 exact zq97
@[go_sem] noncomputable def fC:List SV->Option Con:=fun l=>(iE l)
theorem nH:FnOk Tryz.prog 77 fC:=mS
def aW (b:Cases)(l_:List Int)(side:Int):Int×Bool×Int:=letI q0:=g9 b l_ side;letI q1:=dM ((q0.1).cases) 0 side (q0.2.1) (q0.1);(bif(q0.2.2 !=0)then(0,false,q0.2.2)else(q1.1,q1.2,0))
def fD (b:Cases)(l_:List Int)(side:Int):Prop:=((lu b l_ side)/\(((g9 b l_ side).2.2 !=0)=false->(ca (((g9 b l_ side).1).cases) 0 side ((g9 b l_ side).2.1) ((g9 b l_ side).1))))
@[go_sem] def qb:List SV->Option Con:=(pD .cases fun b=>(pR .int fun l_=>(pI fun side=>(pE (.det (fD b l_ side) (.tup [.v (.int .i64 ((aW b l_ side).1)),.v (.bool ((aW b l_ side).2.1)),.v (.int .i64 ((aW b l_ side).2.2))]))))))
theorem zq98 {p:Prop}(h:p:=by simp only[go_sem,Nat.reduceBEq,Nat.reduceLeDiff,Nat.reduceLT,decide_true,Nat.reduceAdd,Nat.reduceSub,Nat.reduceMul,Int.reduceLE,Int.reduceLT,Int.reduceToNat,Int.reduceNeg,reduceCtorEq,fC];all_goals exact cl):p:=h
theorem tO:FnOk Tryz.prog 34 qb:=by
 have hG:ConsOk Tryz.prog (mkG [(77,fun l=>fC (bD [.sl .precedentsDecided,.o,.o] l)),(79,fun l=>xf (bD [.st .cases,.sl .int,.o] l))] []):=av (cgc (nH.norm [.sl .precedentsDecided,.o,.o]) (cgc (Ce.norm [.st .cases,.sl .int,.o]) cg0)) cg0;refine ax [.o,.o,.o] mixed am hG (fn:=Tryz.f34) (c:=aa Tryz.f34) kr kr kr kr (a7 fun b=>(bB fun l_=>(bY fun side=>(aj (fun hp=>?_)))));dsimp only[aw]at hp;unfold fD at hp;refine⟨nbl rfl,L0,ag _,?_⟩;unfold aa Tryz.f34;try unfold aW
 exact zq98
def jC (q:Int):Bool:=(((decide ((-32)<=q))&&(decide (q<=32)))&&(q !=0))
@[go_sem] def pO:List SV->Option Con:=(pI fun q=>(pE (.det True (.v (.bool (jC q))))))
theorem sd:FnOk Tryz.prog 83 pO:=by
 have hG:ConsOk Tryz.prog (mkG [] []):=av cg0 cg0;refine ax [.o] mixed am hG (fn:=Tryz.f83) (c:=aa Tryz.f83) kr kr kr kr (bY fun q=>(aj (fun hp=>?_)));dsimp only[aw]at hp;refine⟨nbl rfl,L0,ag _,?_⟩;unfold aa Tryz.f83;try unfold jC
 exact zq1
@[go_sem] def tB (l_:List Int)(k_0:Nat)(s_0:Unit):Unit⊕Unit:=(bif((!(jC (l_.getD k_0 0))) ||((decide ((k_0:Int) > 0))&&(decide ((l_.getD k_0 0)<=(l_.getD (Int.toNat (i64.wrap ((k_0:Int) - 1))) 0)))))then .inl ()else .inr ())
def kz (l_:List Int)(k_0:Nat)(s_0:Unit):Prop:=((!(jC (l_.getD k_0 0)))=false->((decide ((k_0:Int) > 0))=true->(0<=(i64.wrap ((k_0:Int) - 1))/\(i64.wrap ((k_0:Int) - 1)) < (l_.length:Int))))
def oT (l_:List Int):Bool:=(match aq (tB l_) l_.length 0 ()with| .inl x_0_0=>false| .inr s_0=>true)
def lv (l_:List Int):Prop:=(l_.length<=aI->okI (tB l_) (kz l_) l_.length 0 ())
@[go_sem] def zm:List SV->Option Con:=(pR .int fun l_=>(pE (.det (lv l_) (.v (.bool (oT l_))))))
theorem D4:FnOk Tryz.prog 117 zm:=by
 have hG:ConsOk Tryz.prog (mkG [(83,pO)] []):=av (cgc sd cg0) cg0;refine ax [.o] mixed am hG (fn:=Tryz.f117) (c:=aa Tryz.f117) kr kr kr kr (bB fun l_=>(aj (fun hp=>?_)));dsimp only[aw]at hp;unfold lv at hp;refine⟨nbl rfl,(fun id st=>bif Nat.beq id 0 then some (LCR (ρ:=Unit) (σ:=Unit) 0 [] [] (fun k_0 s_0=>⟨[(0,.rs .int l_),(5,.rs .int l_),(6,.v (.int .i64 (l_.length:Int))),(7,.v (.int .i64 (k_0:Int)))],[]⟩) (tB l_) (kz l_) l_.length () (l_.length<=aI) (fun _=>.ret) (fun x_0_0=>⟨[(2,.v (.bool false))],[]⟩) st)else none),?_,?_⟩;unfold aa Tryz.f117;simp only[ap,true_and,and_true];refine a8 mixed am hG kr (fun _=>rfl) (l_.length:Int) rfl iB (fun hb0 k_0 s_0 hlt0 hq0 hw hc=>⟨L0,ag _,?_⟩) (fun hb0 s_0 hc=>?_);unfold kz at hq0;try simp only[hw,air]at hq0
 exact bT (jl []);exact bN (jl []);unfold aa Tryz.f117;try unfold oT
 exact zq1
def wr (c:Clause):Bool:=(decide ((c.if_.length:Int) > 8))
@[go_sem] def ye:List SV->Option Con:=(pD .clause fun c=>(pE (.det True (.v (.bool (wr c))))))
theorem C_:FnOk Tryz.prog 115 ye:=by
 have hG:ConsOk Tryz.prog (mkG [] []):=av cg0 cg0;refine ax [.o] mixed am hG (fn:=Tryz.f115) (c:=aa Tryz.f115) kr kr kr kr (a7 fun c=>(aj (fun hp=>?_)));dsimp only[aw]at hp;refine⟨nbl rfl,L0,ag _,?_⟩;unfold aa Tryz.f115;try unfold wr
 exact zq1
def se (q:Int)(k_:PleasCourt):Bool:=((aZ .int .int k_.known q) !=1)
@[go_sem] def uU:List SV->Option Con:=(pI fun q=>(pXX .pleasCourt fun k_=>(pE (.det True (.v (.bool (se q k_)))))))
theorem zX:FnOk Tryz.prog 208 uU:=by
 have hG:ConsOk Tryz.prog (mkG [] []):=av cg0 cg0;refine ax [.o] mixed am hG (fn:=Tryz.f208) (c:=aa Tryz.f208) kr kr kr kr (bY fun q=>(bW fun k_=>(aj (fun hp=>?_))));dsimp only[aw]at hp;refine⟨nbl rfl,L0,ag _,?_⟩;unfold aa Tryz.f208;try unfold se
 exact zq1
def qY (q:Int)(k_:PleasCourt):Bool:=((aZ .int .int k_.known q) ==2)
@[go_sem] def tP:List SV->Option Con:=(pI fun q=>(pXX .pleasCourt fun k_=>(pE (.det True (.v (.bool (qY q k_)))))))
theorem zn:FnOk Tryz.prog 209 tP:=by
 have hG:ConsOk Tryz.prog (mkG [] []):=av cg0 cg0;refine ax [.o] mixed am hG (fn:=Tryz.f209) (c:=aa Tryz.f209) kr kr kr kr (bY fun q=>(bW fun k_=>(aj (fun hp=>?_))));dsimp only[aw]at hp;refine⟨nbl rfl,L0,ag _,?_⟩;unfold aa Tryz.f209;try unfold qY
 exact zq1
@[go_sem] def nv (s_:List Int)(k_:PleasCourt)(k_0:Nat)(s_0:Unit):Int⊕Unit:=(bif(se (s_.getD k_0 0) k_)then .inl (k_0:Int)else .inr ())
def kH (s_:List Int)(k_:PleasCourt):Int:=(match aq (nv s_ k_) s_.length 0 ()with| .inl x_0_0=>x_0_0| .inr s_0=>(-1))
@[go_sem] def jK:List SV->Option Con:=(pR .int fun s_=>(pFn 208 (pXX .pleasCourt fun k_=>(pE ((pE (.det True (.v (.int .i64 (kH s_ k_))))))))))
theorem ny:FnOk Tryz.prog 203 jK:=by
 have hG:ConsOk Tryz.prog (mkG [(208,uU)] []):=av (cgc zX cg0) cg0;refine ax [.o] mixed am hG (fn:=Tryz.f203) (c:=aa Tryz.f203) kr kr kr kr (bB fun s_=>(bI (bW fun k_=>(aj ((aj (fun hp=>?_)))))));dsimp only[aw]at hp;refine⟨nbl rfl,(fun id st=>bif Nat.beq id 0 then some (LCR (ρ:=Int) (σ:=Unit) 0 [] [] (fun k_0 s_0=>⟨[(0,.rs .int s_),(1,.fn 208 [] [.ep [.ep (cellsOf .pleasCourt k_) 0] 0]),(7,.v (.int .i64 (s_.length:Int))),(8,.v (.int .i64 (k_0:Int)))],[]⟩) (nv s_ k_) pT s_.length () (s_.length<=aI) (fun _=>.ret) (fun x_0_0=>⟨[(4,.v (.int .i64 x_0_0))],[]⟩) st)else none),?_,?_⟩;unfold aa Tryz.f203;simp only[ap,true_and,and_true];refine a8 mixed am hG kr (fun _=>rfl) (s_.length:Int) rfl iB (fun hb0 k_0 s_0 hlt0 _ hw hc=>⟨L0,ag _,?_⟩) (fun hb0 s_0 hc=>?_);exact bT (jl []);exact bN (jl []);unfold aa Tryz.f203;try unfold kH
 exact zq1
@[go_sem] def lV (s_:List Int)(k_:PleasCourt)(k_0:Nat)(s_0:Unit):Int⊕Unit:=(bif(qY (s_.getD k_0 0) k_)then .inl (k_0:Int)else .inr ())
def jL (s_:List Int)(k_:PleasCourt):Int:=(match aq (lV s_ k_) s_.length 0 ()with| .inl x_0_0=>x_0_0| .inr s_0=>(-1))
@[go_sem] def jh:List SV->Option Con:=(pR .int fun s_=>(pFn 209 (pXX .pleasCourt fun k_=>(pE ((pE (.det True (.v (.int .i64 (jL s_ k_))))))))))
theorem lW:FnOk Tryz.prog 203 jh:=by
 have hG:ConsOk Tryz.prog (mkG [(209,tP)] []):=av (cgc zn cg0) cg0;refine ax [.o] mixed am hG (fn:=Tryz.f203) (c:=aa Tryz.f203) kr kr kr kr (bB fun s_=>(bI (bW fun k_=>(aj ((aj (fun hp=>?_)))))));dsimp only[aw]at hp;refine⟨nbl rfl,(fun id st=>bif Nat.beq id 0 then some (LCR (ρ:=Int) (σ:=Unit) 0 [] [] (fun k_0 s_0=>⟨[(0,.rs .int s_),(1,.fn 209 [] [.ep [.ep (cellsOf .pleasCourt k_) 0] 0]),(7,.v (.int .i64 (s_.length:Int))),(8,.v (.int .i64 (k_0:Int)))],[]⟩) (lV s_ k_) pT s_.length () (s_.length<=aI) (fun _=>.ret) (fun x_0_0=>⟨[(4,.v (.int .i64 x_0_0))],[]⟩) st)else none),?_,?_⟩;unfold aa Tryz.f203;simp only[ap,true_and,and_true];refine a8 mixed am hG kr (fun _=>rfl) (s_.length:Int) rfl iB (fun hb0 k_0 s_0 hlt0 _ hw hc=>⟨L0,ag _,?_⟩) (fun hb0 s_0 hc=>?_);exact bT (jl []);exact bN (jl []);unfold aa Tryz.f203;try unfold jL
 exact zq1
@[go_sem] noncomputable def gJ:List SV->Option Con:=fun l=>(orC (jK l) (jh l))
theorem mG:FnOk Tryz.prog 203 gJ:=(FnOk.or ny lW)
def jq (s_:List Int)(k_:PleasCourt):Bool:=(decide ((kH s_ k_)>=0))
@[go_sem] def iP:List SV->Option Con:=(pR .int fun s_=>(pFn 208 (pXX .pleasCourt fun k_=>(pE ((pE (.det True (.v (.bool (jq s_ k_))))))))))
theorem YF {p:Prop}(h:p:=by simp only[go_sem,Nat.reduceBEq,Nat.reduceLeDiff,Nat.reduceLT,decide_true,Nat.reduceAdd,Nat.reduceSub,Nat.reduceMul,Int.reduceLE,Int.reduceLT,Int.reduceToNat,Int.reduceNeg,reduceCtorEq,gJ];all_goals exact cl):p:=h
theorem lw:FnOk Tryz.prog 157 iP:=by
 have hG:ConsOk Tryz.prog (mkG [(203,fun l=>gJ (bD [.sl .int,.o] l))] []):=av (cgc (mG.norm [.sl .int,.o]) cg0) cg0;refine ax [.o] mixed am hG (fn:=Tryz.f157) (c:=aa Tryz.f157) kr kr kr kr (bB fun s_=>(bI (bW fun k_=>(aj ((aj (fun hp=>?_)))))));dsimp only[aw]at hp;refine⟨nbl rfl,L0,ag _,?_⟩;unfold aa Tryz.f157;try unfold jq
 exact YF
def iQ (s_:List Int)(k_:PleasCourt):Bool:=(decide ((jL s_ k_)>=0))
@[go_sem] def iq:List SV->Option Con:=(pR .int fun s_=>(pFn 209 (pXX .pleasCourt fun k_=>(pE ((pE (.det True (.v (.bool (iQ s_ k_))))))))))
theorem kA:FnOk Tryz.prog 157 iq:=by
 have hG:ConsOk Tryz.prog (mkG [(203,fun l=>gJ (bD [.sl .int,.o] l))] []):=av (cgc (mG.norm [.sl .int,.o]) cg0) cg0;refine ax [.o] mixed am hG (fn:=Tryz.f157) (c:=aa Tryz.f157) kr kr kr kr (bB fun s_=>(bI (bW fun k_=>(aj ((aj (fun hp=>?_)))))));dsimp only[aw]at hp;refine⟨nbl rfl,L0,ag _,?_⟩;unfold aa Tryz.f157;try unfold iQ
 exact YF
@[go_sem] noncomputable def fM:List SV->Option Con:=fun l=>(orC (iP l) (iq l))
theorem kP:FnOk Tryz.prog 157 fM:=(FnOk.or lw kA)
def lz (k_:PleasCourt)(c:Clause):Bool:=(!(jq c.if_ k_))
@[go_sem] def lA:List SV->Option Con:=(pX .pleasCourt fun k_=>(pD .clause fun c=>(pE (.det True (.v (.bool (lz k_ c)))))))
theorem YG {p:Prop}(h:p:=by simp only[go_sem,Nat.reduceBEq,Nat.reduceLeDiff,Nat.reduceLT,decide_true,Nat.reduceAdd,Nat.reduceSub,Nat.reduceMul,Int.reduceLE,Int.reduceLT,Int.reduceToNat,Int.reduceNeg,reduceCtorEq,fM];all_goals exact cl):p:=h
theorem nA:FnOk Tryz.prog 165 lA:=by
 have hG:ConsOk Tryz.prog (mkG [(157,fun l=>fM (bD [.sl .int,.o] l))] []):=av (cgc (kP.norm [.sl .int,.o]) cg0) cg0;refine ax [.o] mixed am hG (fn:=Tryz.f165) (c:=aa Tryz.f165) kr kr kr kr (aP fun k_=>(a7 fun c=>(aj (fun hp=>?_))));dsimp only[aw]at hp;refine⟨nbl rfl,L0,ag _,?_⟩;unfold aa Tryz.f165;try unfold lz
 exact YG
def mH (k_:PleasCourt)(c:Clause):Bool:=(iQ c.if_ k_)
@[go_sem] def nB:List SV->Option Con:=(pX .pleasCourt fun k_=>(pD .clause fun c=>(pE (.det True (.v (.bool (mH k_ c)))))))
theorem qc:FnOk Tryz.prog 167 nB:=by
 have hG:ConsOk Tryz.prog (mkG [(157,fun l=>fM (bD [.sl .int,.o] l))] []):=av (cgc (kP.norm [.sl .int,.o]) cg0) cg0;refine ax [.o] mixed am hG (fn:=Tryz.f167) (c:=aa Tryz.f167) kr kr kr kr (aP fun k_=>(a7 fun c=>(aj (fun hp=>?_))));dsimp only[aw]at hp;refine⟨nbl rfl,L0,ag _,?_⟩;unfold aa Tryz.f167;try unfold mH
 exact YG
def oc (c:Clause)(q:Int)(k_:PleasCourt):Bool:=((c.then_==q)&&(lz k_ c))
@[go_sem] def qZ:List SV->Option Con:=(pD .clause fun c=>(pX .int fun q=>(pXX .pleasCourt fun k_=>(pE (.det True (.v (.bool (oc c q k_))))))))
theorem xg:FnOk Tryz.prog 169 qZ:=by
 have hG:ConsOk Tryz.prog (mkG [(165,fun l=>lA (bD [.o,.st .clause] l))] []):=av (cgc (nA.norm [.o,.st .clause]) cg0) cg0;refine ax [.o] mixed am hG (fn:=Tryz.f169) (c:=aa Tryz.f169) kr kr kr kr (a7 fun c=>(aP fun q=>(bW fun k_=>(aj (fun hp=>?_)))));dsimp only[aw]at hp;refine⟨nbl rfl,L0,ag _,?_⟩;unfold aa Tryz.f169;try unfold oc
 exact zq1
@[go_sem] def gM (s_:List Clause)(q:Int)(k_:PleasCourt)(k_0:Nat)(s_0:Unit):Int⊕Unit:=(bif(oc (s_.getD k_0 default) q k_)then .inl (k_0:Int)else .inr ())
def eU (s_:List Clause)(q:Int)(k_:PleasCourt):Int:=(match aq (gM s_ q k_) s_.length 0 ()with| .inl x_0_0=>x_0_0| .inr s_0=>(-1))
@[go_sem] def bQ:List SV->Option Con:=(pR .clause fun s_=>(pFn 169 (pX .int fun q=>(pXX .pleasCourt fun k_=>(pE ((pE (.det True (.v (.int .i64 (eU s_ q k_)))))))))))
theorem cG:FnOk Tryz.prog 156 bQ:=by
 have hG:ConsOk Tryz.prog (mkG [(169,fun l=>qZ (bD [.st .clause,.o,.o] l))] []):=av (cgc (xg.norm [.st .clause,.o,.o]) cg0) cg0;refine ax [.o] mixed am hG (fn:=Tryz.f156) (c:=aa Tryz.f156) kr kr kr kr (bB fun s_=>(bI (aP fun q=>(bW fun k_=>(aj ((aj (fun hp=>?_))))))));dsimp only[aw]at hp;refine⟨nbl rfl,(fun id st=>bif Nat.beq id 0 then some (LCR (ρ:=Int) (σ:=Unit) 0 [] [] (fun k_0 s_0=>⟨[(0,.rs .clause s_),(1,.fn 169 [] [.ep [.v (.int .i64 q)] 0,.ep [.ep (cellsOf .pleasCourt k_) 0] 0]),(7,.v (.int .i64 (s_.length:Int))),(8,.v (.int .i64 (k_0:Int)))],[]⟩) (gM s_ q k_) pT s_.length () (s_.length<=aI) (fun _=>.ret) (fun x_0_0=>⟨[(4,.v (.int .i64 x_0_0))],[]⟩) st)else none),?_,?_⟩;unfold aa Tryz.f156;simp only[ap,true_and,and_true];refine a8 mixed am hG kr (fun _=>rfl) (s_.length:Int) rfl iB (fun hb0 k_0 s_0 hlt0 _ hw hc=>⟨L0,ag _,?_⟩) (fun hb0 s_0 hc=>?_);exact bT (jl []);exact bN (jl []);unfold aa Tryz.f156;try unfold eU
 exact zq1
@[go_sem] noncomputable def eL:List SV->Option Con:=fun l=>(bQ l)
theorem mf:FnOk Tryz.prog 156 eL:=cG
def mg (k_:PleasCourt)(q:Int):Int:=(i64.wrap (1+(eU k_.plea.clauses q k_)))
@[go_sem] def sZ:List SV->Option Con:=(pX .pleasCourt fun k_=>(pI fun q=>(pE (.det True (.v (.int .i64 (mg k_ q)))))))
theorem ae5 {p:Prop}(h:p:=by simp only[go_sem,Nat.reduceBEq,Nat.reduceLeDiff,Nat.reduceLT,decide_true,Nat.reduceAdd,Nat.reduceSub,Nat.reduceMul,Int.reduceLE,Int.reduceLT,Int.reduceToNat,Int.reduceNeg,reduceCtorEq,eL];all_goals exact cl):p:=h
theorem ym:FnOk Tryz.prog 133 sZ:=by
 have hG:ConsOk Tryz.prog (mkG [(156,fun l=>eL (bD [.sl .clause,.o] l))] []):=av (cgc (mf.norm [.sl .clause,.o]) cg0) cg0;refine ax [.o] mixed am hG (fn:=Tryz.f133) (c:=aa Tryz.f133) kr kr kr kr (aP fun k_=>(bY fun q=>(aj (fun hp=>?_))));dsimp only[aw]at hp;refine⟨nbl rfl,L0,ag _,?_⟩;unfold aa Tryz.f133;try unfold mg
 exact ae5
def mh (c:Clause)(k_:PleasCourt)(w_:Clause):Bool:=((lz k_ c)&&(decide (c.rank > w_.rank)))
@[go_sem] def pA:List SV->Option Con:=(pD .clause fun c=>(pXX .pleasCourt fun k_=>(pX .clause fun w_=>(pE (.det True (.v (.bool (mh c k_ w_))))))))
theorem vo:FnOk Tryz.prog 168 pA:=by
 have hG:ConsOk Tryz.prog (mkG [(165,fun l=>lA (bD [.o,.st .clause] l))] []):=av (cgc (nA.norm [.o,.st .clause]) cg0) cg0;refine ax [.o] mixed am hG (fn:=Tryz.f168) (c:=aa Tryz.f168) kr kr kr kr (a7 fun c=>(bW fun k_=>(aP fun w_=>(aj (fun hp=>?_)))));dsimp only[aw]at hp;refine⟨nbl rfl,L0,ag _,?_⟩;unfold aa Tryz.f168;try unfold mh
 exact zq1
def lB (c:Clause)(k_:PleasCourt):Bool:=(!(mH k_ c))
@[go_sem] def oX:List SV->Option Con:=(pD .clause fun c=>(pXX .pleasCourt fun k_=>(pE (.det True (.v (.bool (lB c k_)))))))
theorem uV:FnOk Tryz.prog 172 oX:=by
 have hG:ConsOk Tryz.prog (mkG [(167,fun l=>nB (bD [.o,.st .clause] l))] []):=av (cgc (qc.norm [.o,.st .clause]) cg0) cg0;refine ax [.o] mixed am hG (fn:=Tryz.f172) (c:=aa Tryz.f172) kr kr kr kr (a7 fun c=>(bW fun k_=>(aj (fun hp=>?_))));dsimp only[aw]at hp;refine⟨nbl rfl,L0,ag _,?_⟩;unfold aa Tryz.f172;try unfold lB
 exact zq1
def jZ (c:Clause)(k_:PleasCourt)(w_:Clause):Bool:=((!(mH k_ c))&&(decide (c.rank > w_.rank)))
@[go_sem] def nC:List SV->Option Con:=(pD .clause fun c=>(pXX .pleasCourt fun k_=>(pX .clause fun w_=>(pE (.det True (.v (.bool (jZ c k_ w_))))))))
theorem tC:FnOk Tryz.prog 175 nC:=by
 have hG:ConsOk Tryz.prog (mkG [(167,fun l=>nB (bD [.o,.st .clause] l))] []):=av (cgc (qc.norm [.o,.st .clause]) cg0) cg0;refine ax [.o] mixed am hG (fn:=Tryz.f175) (c:=aa Tryz.f175) kr kr kr kr (a7 fun c=>(bW fun k_=>(aP fun w_=>(aj (fun hp=>?_)))));dsimp only[aw]at hp;refine⟨nbl rfl,L0,ag _,?_⟩;unfold aa Tryz.f175;try unfold jZ
 exact zq1
def od (c:Clause)(q0:Int)(k2:PleasCourt):Bool:=((c.then_==q0)&&(lz k2 c))
@[go_sem] def mj:List SV->Option Con:=(pD .clause fun c=>(pX .int fun q0=>(Nm 165 (pX .pleasCourt fun k2=>(pE ((pE (.det True (.v (.bool (od c q0 k2)))))))))))
theorem qq:FnOk Tryz.prog 207 mj:=by
 have hG:ConsOk Tryz.prog (mkG [(165,fun l=>lA (bD [.o,.st .clause] l))] []):=av (cgc (nA.norm [.o,.st .clause]) cg0) cg0;refine ax [.o] mixed am hG (fn:=Tryz.f207) (c:=aa Tryz.f207) kr kr kr kr (a7 fun c=>(aP fun q0=>(FN (aP fun k2=>(aj ((aj (fun hp=>?_))))))));dsimp only[aw]at hp;refine⟨nbl rfl,L0,ag _,?_⟩;unfold aa Tryz.f207;try unfold od
 exact zq1
def oe (c:Clause)(q0:Int)(k2:PleasCourt)(w_:Clause):Bool:=((c.then_==q0)&&(mh c k2 w_))
@[go_sem] def ml:List SV->Option Con:=(pD .clause fun c=>(pX .int fun q0=>(pXF 168 (pXX .pleasCourt fun k2=>(pX .clause fun w_=>(pE ((pE (.det True (.v (.bool (oe c q0 k2 w_))))))))))))
theorem qr:FnOk Tryz.prog 207 ml:=by
 have hG:ConsOk Tryz.prog (mkG [(168,fun l=>pA (bD [.st .clause,.o,.o] l))] []):=av (cgc (vo.norm [.st .clause,.o,.o]) cg0) cg0;refine ax [.o] mixed am hG (fn:=Tryz.f207) (c:=aa Tryz.f207) kr kr kr kr (a7 fun c=>(aP fun q0=>(kc (bW fun k2=>(aP fun w_=>(aj ((aj (fun hp=>?_)))))))));dsimp only[aw]at hp;refine⟨nbl rfl,L0,ag _,?_⟩;unfold aa Tryz.f207;try unfold oe
 exact zq1
def og (c:Clause)(q0:Int)(k2:PleasCourt):Bool:=((c.then_==q0)&&(lB c k2))
@[go_sem] def mm:List SV->Option Con:=(pD .clause fun c=>(pX .int fun q0=>(pXF 172 (pXX .pleasCourt fun k2=>(pE ((pE (.det True (.v (.bool (og c q0 k2)))))))))))
theorem qs:FnOk Tryz.prog 207 mm:=by
 have hG:ConsOk Tryz.prog (mkG [(172,fun l=>oX (bD [.st .clause,.o] l))] []):=av (cgc (uV.norm [.st .clause,.o]) cg0) cg0;refine ax [.o] mixed am hG (fn:=Tryz.f207) (c:=aa Tryz.f207) kr kr kr kr (a7 fun c=>(aP fun q0=>(kc (bW fun k2=>(aj ((aj (fun hp=>?_))))))));dsimp only[aw]at hp;refine⟨nbl rfl,L0,ag _,?_⟩;unfold aa Tryz.f207;try unfold og
 exact zq1
def oh (c:Clause)(q0:Int)(k2:PleasCourt)(w_:Clause):Bool:=((c.then_==q0)&&(jZ c k2 w_))
@[go_sem] def mn:List SV->Option Con:=(pD .clause fun c=>(pX .int fun q0=>(pXF 175 (pXX .pleasCourt fun k2=>(pX .clause fun w_=>(pE ((pE (.det True (.v (.bool (oh c q0 k2 w_))))))))))))
theorem qt:FnOk Tryz.prog 207 mn:=by
 have hG:ConsOk Tryz.prog (mkG [(175,fun l=>nC (bD [.st .clause,.o,.o] l))] []):=av (cgc (tC.norm [.st .clause,.o,.o]) cg0) cg0;refine ax [.o] mixed am hG (fn:=Tryz.f207) (c:=aa Tryz.f207) kr kr kr kr (a7 fun c=>(aP fun q0=>(kc (bW fun k2=>(aP fun w_=>(aj ((aj (fun hp=>?_)))))))));dsimp only[aw]at hp;refine⟨nbl rfl,L0,ag _,?_⟩;unfold aa Tryz.f207;try unfold oh
 exact zq1
@[go_sem] noncomputable def fY:List SV->Option Con:=fun l=>(orC (mj l) (orC (ml l) (orC (mm l) (mn l))))
theorem jr:FnOk Tryz.prog 207 fY:=(FnOk.or qq (FnOk.or qr (FnOk.or qs qt)))
@[go_sem] def gN (s_:List Clause)(q0:Int)(k2:PleasCourt)(k_0:Nat)(s_0:Unit):Int⊕Unit:=(bif(od (s_.getD k_0 default) q0 k2)then .inl (k_0:Int)else .inr ())
def eV (s_:List Clause)(q0:Int)(k2:PleasCourt):Int:=(match aq (gN s_ q0 k2) s_.length 0 ()with| .inl x_0_0=>x_0_0| .inr s_0=>(-1))
@[go_sem] def cN:List SV->Option Con:=(pR .clause fun s_=>(pFn 207 (pX .int fun q0=>(Nm 165 (pX .pleasCourt fun k2=>(pE ((pE ((pE (.det True (.v (.int .i64 (eV s_ q0 k2))))))))))))))
theorem Po {p:Prop}(h:p:=by simp only[go_sem,Nat.reduceBEq,Nat.reduceLeDiff,Nat.reduceLT,decide_true,Nat.reduceAdd,Nat.reduceSub,Nat.reduceMul,Int.reduceLE,Int.reduceLT,Int.reduceToNat,Int.reduceNeg,reduceCtorEq,fY];all_goals exact cl):p:=h
theorem d9:FnOk Tryz.prog 156 cN:=by
 have hG:ConsOk Tryz.prog (mkG [(207,fun l=>fY (bD [.st .clause,.o,.o] l))] []):=av (cgc (jr.norm [.st .clause,.o,.o]) cg0) cg0;refine ax [.o] mixed am hG (fn:=Tryz.f156) (c:=aa Tryz.f156) kr kr kr kr (bB fun s_=>(bI (aP fun q0=>(FN (aP fun k2=>(aj ((aj ((aj (fun hp=>?_)))))))))));dsimp only[aw]at hp;refine⟨nbl rfl,(fun id st=>bif Nat.beq id 0 then some (LCR (ρ:=Int) (σ:=Unit) 0 [] [] (fun k_0 s_0=>⟨[(0,.rs .clause s_),(1,.fn 207 [] [.ep [.v (.int .i64 q0)] 0,.ep [.fn 165 [.ep (cellsOf .pleasCourt k2) 0] []] 0]),(7,.v (.int .i64 (s_.length:Int))),(8,.v (.int .i64 (k_0:Int)))],[]⟩) (gN s_ q0 k2) pT s_.length () (s_.length<=aI) (fun _=>.ret) (fun x_0_0=>⟨[(4,.v (.int .i64 x_0_0))],[]⟩) st)else none),?_,?_⟩;unfold aa Tryz.f156;simp only[ap,true_and,and_true];refine a8 mixed am hG kr (fun _=>rfl) (s_.length:Int) rfl iB (fun hb0 k_0 s_0 hlt0 _ hw hc=>⟨L0,ag _,?_⟩) (fun hb0 s_0 hc=>?_);exact bT (jl []);exact bN (jl []);unfold aa Tryz.f156;try unfold eV
 exact Po
@[go_sem] def gO (s_:List Clause)(q0:Int)(k2:PleasCourt)(w_:Clause)(k_0:Nat)(s_0:Unit):Int⊕Unit:=(bif(oe (s_.getD k_0 default) q0 k2 w_)then .inl (k_0:Int)else .inr ())
def eW (s_:List Clause)(q0:Int)(k2:PleasCourt)(w_:Clause):Int:=(match aq (gO s_ q0 k2 w_) s_.length 0 ()with| .inl x_0_0=>x_0_0| .inr s_0=>(-1))
@[go_sem] def cO:List SV->Option Con:=(pR .clause fun s_=>(pFn 207 (pX .int fun q0=>(pXF 168 (pXX .pleasCourt fun k2=>(pX .clause fun w_=>(pE ((pE ((pE (.det True (.v (.int .i64 (eW s_ q0 k2 w_)))))))))))))))
theorem d_:FnOk Tryz.prog 156 cO:=by
 have hG:ConsOk Tryz.prog (mkG [(207,fun l=>fY (bD [.st .clause,.o,.o] l))] []):=av (cgc (jr.norm [.st .clause,.o,.o]) cg0) cg0;refine ax [.o] mixed am hG (fn:=Tryz.f156) (c:=aa Tryz.f156) kr kr kr kr (bB fun s_=>(bI (aP fun q0=>(kc (bW fun k2=>(aP fun w_=>(aj ((aj ((aj (fun hp=>?_))))))))))));dsimp only[aw]at hp;refine⟨nbl rfl,(fun id st=>bif Nat.beq id 0 then some (LCR (ρ:=Int) (σ:=Unit) 0 [] [] (fun k_0 s_0=>⟨[(0,.rs .clause s_),(1,.fn 207 [] [.ep [.v (.int .i64 q0)] 0,.ep [.fn 168 [] [.ep [.ep (cellsOf .pleasCourt k2) 0] 0,.ep (cellsOf .clause w_) 0]] 0]),(7,.v (.int .i64 (s_.length:Int))),(8,.v (.int .i64 (k_0:Int)))],[]⟩) (gO s_ q0 k2 w_) pT s_.length () (s_.length<=aI) (fun _=>.ret) (fun x_0_0=>⟨[(4,.v (.int .i64 x_0_0))],[]⟩) st)else none),?_,?_⟩;unfold aa Tryz.f156;simp only[ap,true_and,and_true];refine a8 mixed am hG kr (fun _=>rfl) (s_.length:Int) rfl iB (fun hb0 k_0 s_0 hlt0 _ hw hc=>⟨L0,ag _,?_⟩) (fun hb0 s_0 hc=>?_);exact bT (jl []);exact bN (jl []);unfold aa Tryz.f156;try unfold eW
 exact Po
@[go_sem] def gQ (s_:List Clause)(q0:Int)(k2:PleasCourt)(k_0:Nat)(s_0:Unit):Int⊕Unit:=(bif(og (s_.getD k_0 default) q0 k2)then .inl (k_0:Int)else .inr ())
def eX (s_:List Clause)(q0:Int)(k2:PleasCourt):Int:=(match aq (gQ s_ q0 k2) s_.length 0 ()with| .inl x_0_0=>x_0_0| .inr s_0=>(-1))
@[go_sem] def cP:List SV->Option Con:=(pR .clause fun s_=>(pFn 207 (pX .int fun q0=>(pXF 172 (pXX .pleasCourt fun k2=>(pE ((pE ((pE (.det True (.v (.int .i64 (eX s_ q0 k2))))))))))))))
theorem eb:FnOk Tryz.prog 156 cP:=by
 have hG:ConsOk Tryz.prog (mkG [(207,fun l=>fY (bD [.st .clause,.o,.o] l))] []):=av (cgc (jr.norm [.st .clause,.o,.o]) cg0) cg0;refine ax [.o] mixed am hG (fn:=Tryz.f156) (c:=aa Tryz.f156) kr kr kr kr (bB fun s_=>(bI (aP fun q0=>(kc (bW fun k2=>(aj ((aj ((aj (fun hp=>?_)))))))))));dsimp only[aw]at hp;refine⟨nbl rfl,(fun id st=>bif Nat.beq id 0 then some (LCR (ρ:=Int) (σ:=Unit) 0 [] [] (fun k_0 s_0=>⟨[(0,.rs .clause s_),(1,.fn 207 [] [.ep [.v (.int .i64 q0)] 0,.ep [.fn 172 [] [.ep [.ep (cellsOf .pleasCourt k2) 0] 0]] 0]),(7,.v (.int .i64 (s_.length:Int))),(8,.v (.int .i64 (k_0:Int)))],[]⟩) (gQ s_ q0 k2) pT s_.length () (s_.length<=aI) (fun _=>.ret) (fun x_0_0=>⟨[(4,.v (.int .i64 x_0_0))],[]⟩) st)else none),?_,?_⟩;unfold aa Tryz.f156;simp only[ap,true_and,and_true];refine a8 mixed am hG kr (fun _=>rfl) (s_.length:Int) rfl iB (fun hb0 k_0 s_0 hlt0 _ hw hc=>⟨L0,ag _,?_⟩) (fun hb0 s_0 hc=>?_);exact bT (jl []);exact bN (jl []);unfold aa Tryz.f156;try unfold eX
 exact Po
@[go_sem] def gR (s_:List Clause)(q0:Int)(k2:PleasCourt)(w_:Clause)(k_0:Nat)(s_0:Unit):Int⊕Unit:=(bif(oh (s_.getD k_0 default) q0 k2 w_)then .inl (k_0:Int)else .inr ())
def eY (s_:List Clause)(q0:Int)(k2:PleasCourt)(w_:Clause):Int:=(match aq (gR s_ q0 k2 w_) s_.length 0 ()with| .inl x_0_0=>x_0_0| .inr s_0=>(-1))
@[go_sem] def cS:List SV->Option Con:=(pR .clause fun s_=>(pFn 207 (pX .int fun q0=>(pXF 175 (pXX .pleasCourt fun k2=>(pX .clause fun w_=>(pE ((pE ((pE (.det True (.v (.int .i64 (eY s_ q0 k2 w_)))))))))))))))
theorem ed:FnOk Tryz.prog 156 cS:=by
 have hG:ConsOk Tryz.prog (mkG [(207,fun l=>fY (bD [.st .clause,.o,.o] l))] []):=av (cgc (jr.norm [.st .clause,.o,.o]) cg0) cg0;refine ax [.o] mixed am hG (fn:=Tryz.f156) (c:=aa Tryz.f156) kr kr kr kr (bB fun s_=>(bI (aP fun q0=>(kc (bW fun k2=>(aP fun w_=>(aj ((aj ((aj (fun hp=>?_))))))))))));dsimp only[aw]at hp;refine⟨nbl rfl,(fun id st=>bif Nat.beq id 0 then some (LCR (ρ:=Int) (σ:=Unit) 0 [] [] (fun k_0 s_0=>⟨[(0,.rs .clause s_),(1,.fn 207 [] [.ep [.v (.int .i64 q0)] 0,.ep [.fn 175 [] [.ep [.ep (cellsOf .pleasCourt k2) 0] 0,.ep (cellsOf .clause w_) 0]] 0]),(7,.v (.int .i64 (s_.length:Int))),(8,.v (.int .i64 (k_0:Int)))],[]⟩) (gR s_ q0 k2 w_) pT s_.length () (s_.length<=aI) (fun _=>.ret) (fun x_0_0=>⟨[(4,.v (.int .i64 x_0_0))],[]⟩) st)else none),?_,?_⟩;unfold aa Tryz.f156;simp only[ap,true_and,and_true];refine a8 mixed am hG kr (fun _=>rfl) (s_.length:Int) rfl iB (fun hb0 k_0 s_0 hlt0 _ hw hc=>⟨L0,ag _,?_⟩) (fun hb0 s_0 hc=>?_);exact bT (jl []);exact bN (jl []);unfold aa Tryz.f156;try unfold eY
 exact Po
@[go_sem] noncomputable def bA:List SV->Option Con:=fun l=>(orC (bQ l) (orC (cN l) (orC (cO l) (orC (cP l) (cS l)))))
theorem cT:FnOk Tryz.prog 156 bA:=(FnOk.or cG (FnOk.or d9 (FnOk.or d_ (FnOk.or eb ed))))
def ee (s_:List Clause)(q0:Int)(k2:PleasCourt):Bool:=(decide ((eV s_ q0 k2)>=0))
@[go_sem] def co:List SV->Option Con:=(pR .clause fun s_=>(pFn 207 (pX .int fun q0=>(Nm 165 (pX .pleasCourt fun k2=>(pE ((pE ((pE (.det True (.v (.bool (ee s_ q0 k2))))))))))))))
theorem Pp {p:Prop}(h:p:=by simp only[go_sem,Nat.reduceBEq,Nat.reduceLeDiff,Nat.reduceLT,decide_true,Nat.reduceAdd,Nat.reduceSub,Nat.reduceMul,Int.reduceLE,Int.reduceLT,Int.reduceToNat,Int.reduceNeg,reduceCtorEq,bA];all_goals exact cl):p:=h
theorem dH:FnOk Tryz.prog 116 co:=by
 have hG:ConsOk Tryz.prog (mkG [(156,fun l=>bA (bD [.sl .clause,.o] l))] []):=av (cgc (cT.norm [.sl .clause,.o]) cg0) cg0;refine ax [.o] mixed am hG (fn:=Tryz.f116) (c:=aa Tryz.f116) kr kr kr kr (bB fun s_=>(bI (aP fun q0=>(FN (aP fun k2=>(aj ((aj ((aj (fun hp=>?_)))))))))));dsimp only[aw]at hp;refine⟨nbl rfl,L0,ag _,?_⟩;unfold aa Tryz.f116;try unfold ee
 exact Pp
def ei (s_:List Clause)(q0:Int)(k2:PleasCourt)(w_:Clause):Bool:=(decide ((eW s_ q0 k2 w_)>=0))
@[go_sem] def cp:List SV->Option Con:=(pR .clause fun s_=>(pFn 207 (pX .int fun q0=>(pXF 168 (pXX .pleasCourt fun k2=>(pX .clause fun w_=>(pE ((pE ((pE (.det True (.v (.bool (ei s_ q0 k2 w_)))))))))))))))
theorem dI:FnOk Tryz.prog 116 cp:=by
 have hG:ConsOk Tryz.prog (mkG [(156,fun l=>bA (bD [.sl .clause,.o] l))] []):=av (cgc (cT.norm [.sl .clause,.o]) cg0) cg0;refine ax [.o] mixed am hG (fn:=Tryz.f116) (c:=aa Tryz.f116) kr kr kr kr (bB fun s_=>(bI (aP fun q0=>(kc (bW fun k2=>(aP fun w_=>(aj ((aj ((aj (fun hp=>?_))))))))))));dsimp only[aw]at hp;refine⟨nbl rfl,L0,ag _,?_⟩;unfold aa Tryz.f116;try unfold ei
 exact Pp
def eo (s_:List Clause)(q0:Int)(k2:PleasCourt):Bool:=(decide ((eX s_ q0 k2)>=0))
@[go_sem] def cq:List SV->Option Con:=(pR .clause fun s_=>(pFn 207 (pX .int fun q0=>(pXF 172 (pXX .pleasCourt fun k2=>(pE ((pE ((pE (.det True (.v (.bool (eo s_ q0 k2))))))))))))))
theorem dJ:FnOk Tryz.prog 116 cq:=by
 have hG:ConsOk Tryz.prog (mkG [(156,fun l=>bA (bD [.sl .clause,.o] l))] []):=av (cgc (cT.norm [.sl .clause,.o]) cg0) cg0;refine ax [.o] mixed am hG (fn:=Tryz.f116) (c:=aa Tryz.f116) kr kr kr kr (bB fun s_=>(bI (aP fun q0=>(kc (bW fun k2=>(aj ((aj ((aj (fun hp=>?_)))))))))));dsimp only[aw]at hp;refine⟨nbl rfl,L0,ag _,?_⟩;unfold aa Tryz.f116;try unfold eo
 exact Pp
def er (s_:List Clause)(q0:Int)(k2:PleasCourt)(w_:Clause):Bool:=(decide ((eY s_ q0 k2 w_)>=0))
@[go_sem] def cr:List SV->Option Con:=(pR .clause fun s_=>(pFn 207 (pX .int fun q0=>(pXF 175 (pXX .pleasCourt fun k2=>(pX .clause fun w_=>(pE ((pE ((pE (.det True (.v (.bool (er s_ q0 k2 w_)))))))))))))))
theorem dL:FnOk Tryz.prog 116 cr:=by
 have hG:ConsOk Tryz.prog (mkG [(156,fun l=>bA (bD [.sl .clause,.o] l))] []):=av (cgc (cT.norm [.sl .clause,.o]) cg0) cg0;refine ax [.o] mixed am hG (fn:=Tryz.f116) (c:=aa Tryz.f116) kr kr kr kr (bB fun s_=>(bI (aP fun q0=>(kc (bW fun k2=>(aP fun w_=>(aj ((aj ((aj (fun hp=>?_))))))))))));dsimp only[aw]at hp;refine⟨nbl rfl,L0,ag _,?_⟩;unfold aa Tryz.f116;try unfold er
 exact Pp
@[go_sem] noncomputable def bg:List SV->Option Con:=fun l=>(orC (co l) (orC (cp l) (orC (cq l) (cr l))))
theorem ct:FnOk Tryz.prog 116 bg:=(FnOk.or dH (FnOk.or dI (FnOk.or dJ dL)))
def qd (k_:PleasCourt)(q:Int)(k2:PleasCourt):Bool:=(ee k_.plea.clauses q k2)
@[go_sem] def oi:List SV->Option Con:=(pX .pleasCourt fun k_=>(pI fun q=>(pFB 165 (pX .pleasCourt fun k2=>(pE ((pE (.det True (.v (.bool (qd k_ q k2)))))))))))
theorem Pq {p:Prop}(h:p:=by simp only[go_sem,Nat.reduceBEq,Nat.reduceLeDiff,Nat.reduceLT,decide_true,Nat.reduceAdd,Nat.reduceSub,Nat.reduceMul,Int.reduceLE,Int.reduceLT,Int.reduceToNat,Int.reduceNeg,reduceCtorEq,bg];all_goals exact cl):p:=h
theorem rI:FnOk Tryz.prog 164 oi:=by
 have hG:ConsOk Tryz.prog (mkG [(116,fun l=>bg (bD [.sl .clause,.o] l))] []):=av (cgc (ct.norm [.sl .clause,.o]) cg0) cg0;refine ax [.o] mixed am hG (fn:=Tryz.f164) (c:=aa Tryz.f164) kr kr kr kr (aP fun k_=>(bY fun q=>(Xi (aP fun k2=>(aj ((aj (fun hp=>?_))))))));dsimp only[aw]at hp;refine⟨nbl rfl,L0,ag _,?_⟩;unfold aa Tryz.f164;try unfold qd
 exact Pq
def qe (k_:PleasCourt)(q:Int)(k2:PleasCourt)(w_:Clause):Bool:=(ei k_.plea.clauses q k2 w_)
@[go_sem] def oj:List SV->Option Con:=(pX .pleasCourt fun k_=>(pI fun q=>(pFn 168 (pXX .pleasCourt fun k2=>(pX .clause fun w_=>(pE ((pE (.det True (.v (.bool (qe k_ q k2 w_))))))))))))
theorem rJ:FnOk Tryz.prog 164 oj:=by
 have hG:ConsOk Tryz.prog (mkG [(116,fun l=>bg (bD [.sl .clause,.o] l))] []):=av (cgc (ct.norm [.sl .clause,.o]) cg0) cg0;refine ax [.o] mixed am hG (fn:=Tryz.f164) (c:=aa Tryz.f164) kr kr kr kr (aP fun k_=>(bY fun q=>(bI (bW fun k2=>(aP fun w_=>(aj ((aj (fun hp=>?_)))))))));dsimp only[aw]at hp;refine⟨nbl rfl,L0,ag _,?_⟩;unfold aa Tryz.f164;try unfold qe
 exact Pq
def qf (k_:PleasCourt)(q:Int)(k2:PleasCourt):Bool:=(eo k_.plea.clauses q k2)
@[go_sem] def ol:List SV->Option Con:=(pX .pleasCourt fun k_=>(pI fun q=>(pFn 172 (pXX .pleasCourt fun k2=>(pE ((pE (.det True (.v (.bool (qf k_ q k2)))))))))))
theorem rK:FnOk Tryz.prog 164 ol:=by
 have hG:ConsOk Tryz.prog (mkG [(116,fun l=>bg (bD [.sl .clause,.o] l))] []):=av (cgc (ct.norm [.sl .clause,.o]) cg0) cg0;refine ax [.o] mixed am hG (fn:=Tryz.f164) (c:=aa Tryz.f164) kr kr kr kr (aP fun k_=>(bY fun q=>(bI (bW fun k2=>(aj ((aj (fun hp=>?_))))))));dsimp only[aw]at hp;refine⟨nbl rfl,L0,ag _,?_⟩;unfold aa Tryz.f164;try unfold qf
 exact Pq
def qg (k_:PleasCourt)(q:Int)(k2:PleasCourt)(w_:Clause):Bool:=(er k_.plea.clauses q k2 w_)
@[go_sem] def oo:List SV->Option Con:=(pX .pleasCourt fun k_=>(pI fun q=>(pFn 175 (pXX .pleasCourt fun k2=>(pX .clause fun w_=>(pE ((pE (.det True (.v (.bool (qg k_ q k2 w_))))))))))))
theorem rL:FnOk Tryz.prog 164 oo:=by
 have hG:ConsOk Tryz.prog (mkG [(116,fun l=>bg (bD [.sl .clause,.o] l))] []):=av (cgc (ct.norm [.sl .clause,.o]) cg0) cg0;refine ax [.o] mixed am hG (fn:=Tryz.f164) (c:=aa Tryz.f164) kr kr kr kr (aP fun k_=>(bY fun q=>(bI (bW fun k2=>(aP fun w_=>(aj ((aj (fun hp=>?_)))))))));dsimp only[aw]at hp;refine⟨nbl rfl,L0,ag _,?_⟩;unfold aa Tryz.f164;try unfold qg
 exact Pq
@[go_sem] noncomputable def kV:List SV->Option Con:=fun l=>(orC (oi l) (orC (oj l) (orC (ol l) (oo l))))
theorem s4:FnOk Tryz.prog 164 kV:=(FnOk.or rI (FnOk.or rJ (FnOk.or rK rL)))
def oq (s_:Clause)(k_:PleasCourt)(q:Int):Bool:=((!(mH k_ s_))&&(!(qe k_ q k_ s_)))
@[go_sem] def q_:List SV->Option Con:=(pD .clause fun s_=>(pXX .pleasCourt fun k_=>(pX .int fun q=>(pE (.det True (.v (.bool (oq s_ k_ q))))))))
theorem YH {p:Prop}(h:p:=by simp only[go_sem,Nat.reduceBEq,Nat.reduceLeDiff,Nat.reduceLT,decide_true,Nat.reduceAdd,Nat.reduceSub,Nat.reduceMul,Int.reduceLE,Int.reduceLT,Int.reduceToNat,Int.reduceNeg,reduceCtorEq,kV];all_goals exact cl):p:=h
theorem xj:FnOk Tryz.prog 166 q_:=by
 have hG:ConsOk Tryz.prog (mkG [(164,kV),(167,fun l=>nB (bD [.o,.st .clause] l))] []):=av (cgc s4 (cgc (qc.norm [.o,.st .clause]) cg0)) cg0;refine ax [.o] mixed am hG (fn:=Tryz.f166) (c:=aa Tryz.f166) kr kr kr kr (a7 fun s_=>(bW fun k_=>(aP fun q=>(aj (fun hp=>?_)))));dsimp only[aw]at hp;refine⟨nbl rfl,L0,ag _,?_⟩;unfold aa Tryz.f166;try unfold oq
 exact YH
def lC (s_:Clause)(k_:PleasCourt)(q:Int):Bool:=((lz k_ s_)&&(!(qg k_ q k_ s_)))
@[go_sem] def oY:List SV->Option Con:=(pD .clause fun s_=>(pXX .pleasCourt fun k_=>(pX .int fun q=>(pE (.det True (.v (.bool (lC s_ k_ q))))))))
theorem uW:FnOk Tryz.prog 174 oY:=by
 have hG:ConsOk Tryz.prog (mkG [(164,kV),(165,fun l=>lA (bD [.o,.st .clause] l))] []):=av (cgc s4 (cgc (nA.norm [.o,.st .clause]) cg0)) cg0;refine ax [.o] mixed am hG (fn:=Tryz.f174) (c:=aa Tryz.f174) kr kr kr kr (a7 fun s_=>(bW fun k_=>(aP fun q=>(aj (fun hp=>?_)))));dsimp only[aw]at hp;refine⟨nbl rfl,L0,ag _,?_⟩;unfold aa Tryz.f174;try unfold lC
 exact YH
def ot (c:Clause)(q0:Int)(k2:PleasCourt)(q2:Int):Bool:=((c.then_==q0)&&(oq c k2 q2))
@[go_sem] def re:List SV->Option Con:=(pD .clause fun c=>(pX .int fun q0=>(pXF 166 (pXX .pleasCourt fun k2=>(pX .int fun q2=>(pE ((pE (.det True (.v (.bool (ot c q0 k2 q2))))))))))))
theorem xk:FnOk Tryz.prog 207 re:=by
 have hG:ConsOk Tryz.prog (mkG [(166,fun l=>q_ (bD [.st .clause,.o,.o] l))] []):=av (cgc (xj.norm [.st .clause,.o,.o]) cg0) cg0;refine ax [.o] mixed am hG (fn:=Tryz.f207) (c:=aa Tryz.f207) kr kr kr kr (a7 fun c=>(aP fun q0=>(kc (bW fun k2=>(aP fun q2=>(aj ((aj (fun hp=>?_)))))))));dsimp only[aw]at hp;refine⟨nbl rfl,L0,ag _,?_⟩;unfold aa Tryz.f207;try unfold ot
 exact zq1
def ou (c:Clause)(q0:Int)(k2:PleasCourt)(q2:Int):Bool:=((c.then_==q0)&&(lC c k2 q2))
@[go_sem] def rg:List SV->Option Con:=(pD .clause fun c=>(pX .int fun q0=>(pXF 174 (pXX .pleasCourt fun k2=>(pX .int fun q2=>(pE ((pE (.det True (.v (.bool (ou c q0 k2 q2))))))))))))
theorem xm:FnOk Tryz.prog 207 rg:=by
 have hG:ConsOk Tryz.prog (mkG [(174,fun l=>oY (bD [.st .clause,.o,.o] l))] []):=av (cgc (uW.norm [.st .clause,.o,.o]) cg0) cg0;refine ax [.o] mixed am hG (fn:=Tryz.f207) (c:=aa Tryz.f207) kr kr kr kr (a7 fun c=>(aP fun q0=>(kc (bW fun k2=>(aP fun q2=>(aj ((aj (fun hp=>?_)))))))));dsimp only[aw]at hp;refine⟨nbl rfl,L0,ag _,?_⟩;unfold aa Tryz.f207;try unfold ou
 exact zq1
@[go_sem] noncomputable def jT:List SV->Option Con:=fun l=>(orC (mj l) (orC (ml l) (orC (mm l) (orC (mn l) (orC (re l) (rg l))))))
theorem rh:FnOk Tryz.prog 207 jT:=(FnOk.or qq (FnOk.or qr (FnOk.or qs (FnOk.or qt (FnOk.or xk xm)))))
@[go_sem] def gS (s_:List Clause)(q0:Int)(k2:PleasCourt)(q2:Int)(k_0:Nat)(s_0:Unit):Int⊕Unit:=(bif(ot (s_.getD k_0 default) q0 k2 q2)then .inl (k_0:Int)else .inr ())
def e_ (s_:List Clause)(q0:Int)(k2:PleasCourt)(q2:Int):Int:=(match aq (gS s_ q0 k2 q2) s_.length 0 ()with| .inl x_0_0=>x_0_0| .inr s_0=>(-1))
@[go_sem] def eF:List SV->Option Con:=(pR .clause fun s_=>(pFn 207 (pX .int fun q0=>(pXF 166 (pXX .pleasCourt fun k2=>(pX .int fun q2=>(pE ((pE ((pE (.det True (.v (.int .i64 (e_ s_ q0 k2 q2)))))))))))))))
theorem YI {p:Prop}(h:p:=by simp only[go_sem,Nat.reduceBEq,Nat.reduceLeDiff,Nat.reduceLT,decide_true,Nat.reduceAdd,Nat.reduceSub,Nat.reduceMul,Int.reduceLE,Int.reduceLT,Int.reduceToNat,Int.reduceNeg,reduceCtorEq,jT];all_goals exact cl):p:=h
theorem gT:FnOk Tryz.prog 156 eF:=by
 have hG:ConsOk Tryz.prog (mkG [(207,fun l=>jT (bD [.st .clause,.o,.o] l))] []):=av (cgc (rh.norm [.st .clause,.o,.o]) cg0) cg0;refine ax [.o] mixed am hG (fn:=Tryz.f156) (c:=aa Tryz.f156) kr kr kr kr (bB fun s_=>(bI (aP fun q0=>(kc (bW fun k2=>(aP fun q2=>(aj ((aj ((aj (fun hp=>?_))))))))))));dsimp only[aw]at hp;refine⟨nbl rfl,(fun id st=>bif Nat.beq id 0 then some (LCR (ρ:=Int) (σ:=Unit) 0 [] [] (fun k_0 s_0=>⟨[(0,.rs .clause s_),(1,.fn 207 [] [.ep [.v (.int .i64 q0)] 0,.ep [.fn 166 [] [.ep [.ep (cellsOf .pleasCourt k2) 0] 0,.ep [.v (.int .i64 q2)] 0]] 0]),(7,.v (.int .i64 (s_.length:Int))),(8,.v (.int .i64 (k_0:Int)))],[]⟩) (gS s_ q0 k2 q2) pT s_.length () (s_.length<=aI) (fun _=>.ret) (fun x_0_0=>⟨[(4,.v (.int .i64 x_0_0))],[]⟩) st)else none),?_,?_⟩;unfold aa Tryz.f156;simp only[ap,true_and,and_true];refine a8 mixed am hG kr (fun _=>rfl) (s_.length:Int) rfl iB (fun hb0 k_0 s_0 hlt0 _ hw hc=>⟨L0,ag _,?_⟩) (fun hb0 s_0 hc=>?_);exact bT (jl []);exact bN (jl []);unfold aa Tryz.f156;try unfold e_
 exact YI
@[go_sem] def gU (s_:List Clause)(q0:Int)(k2:PleasCourt)(q2:Int)(k_0:Nat)(s_0:Unit):Int⊕Unit:=(bif(ou (s_.getD k_0 default) q0 k2 q2)then .inl (k_0:Int)else .inr ())
def fe (s_:List Clause)(q0:Int)(k2:PleasCourt)(q2:Int):Int:=(match aq (gU s_ q0 k2 q2) s_.length 0 ()with| .inl x_0_0=>x_0_0| .inr s_0=>(-1))
@[go_sem] def eH:List SV->Option Con:=(pR .clause fun s_=>(pFn 207 (pX .int fun q0=>(pXF 174 (pXX .pleasCourt fun k2=>(pX .int fun q2=>(pE ((pE ((pE (.det True (.v (.int .i64 (fe s_ q0 k2 q2)))))))))))))))
theorem gV:FnOk Tryz.prog 156 eH:=by
 have hG:ConsOk Tryz.prog (mkG [(207,fun l=>jT (bD [.st .clause,.o,.o] l))] []):=av (cgc (rh.norm [.st .clause,.o,.o]) cg0) cg0;refine ax [.o] mixed am hG (fn:=Tryz.f156) (c:=aa Tryz.f156) kr kr kr kr (bB fun s_=>(bI (aP fun q0=>(kc (bW fun k2=>(aP fun q2=>(aj ((aj ((aj (fun hp=>?_))))))))))));dsimp only[aw]at hp;refine⟨nbl rfl,(fun id st=>bif Nat.beq id 0 then some (LCR (ρ:=Int) (σ:=Unit) 0 [] [] (fun k_0 s_0=>⟨[(0,.rs .clause s_),(1,.fn 207 [] [.ep [.v (.int .i64 q0)] 0,.ep [.fn 174 [] [.ep [.ep (cellsOf .pleasCourt k2) 0] 0,.ep [.v (.int .i64 q2)] 0]] 0]),(7,.v (.int .i64 (s_.length:Int))),(8,.v (.int .i64 (k_0:Int)))],[]⟩) (gU s_ q0 k2 q2) pT s_.length () (s_.length<=aI) (fun _=>.ret) (fun x_0_0=>⟨[(4,.v (.int .i64 x_0_0))],[]⟩) st)else none),?_,?_⟩;unfold aa Tryz.f156;simp only[ap,true_and,and_true];refine a8 mixed am hG kr (fun _=>rfl) (s_.length:Int) rfl iB (fun hb0 k_0 s_0 hlt0 _ hw hc=>⟨L0,ag _,?_⟩) (fun hb0 s_0 hc=>?_);exact bT (jl []);exact bN (jl []);unfold aa Tryz.f156;try unfold fe
 exact YI
@[go_sem] noncomputable def c8:List SV->Option Con:=fun l=>(orC (bQ l) (orC (cN l) (orC (cO l) (orC (cP l) (orC (cS l) (orC (eF l) (eH l)))))))
theorem g_:FnOk Tryz.prog 156 c8:=(FnOk.or cG (FnOk.or d9 (FnOk.or d_ (FnOk.or eb (FnOk.or ed (FnOk.or gT gV))))))
def et (s_:List Clause)(q0:Int)(k2:PleasCourt)(q2:Int):Bool:=(decide ((e_ s_ q0 k2 q2)>=0))
@[go_sem] def dO:List SV->Option Con:=(pR .clause fun s_=>(pFn 207 (pX .int fun q0=>(pXF 166 (pXX .pleasCourt fun k2=>(pX .int fun q2=>(pE ((pE ((pE (.det True (.v (.bool (et s_ q0 k2 q2)))))))))))))))
theorem YJ {p:Prop}(h:p:=by simp only[go_sem,Nat.reduceBEq,Nat.reduceLeDiff,Nat.reduceLT,decide_true,Nat.reduceAdd,Nat.reduceSub,Nat.reduceMul,Int.reduceLE,Int.reduceLT,Int.reduceToNat,Int.reduceNeg,reduceCtorEq,c8];all_goals exact cl):p:=h
theorem gb:FnOk Tryz.prog 116 dO:=by
 have hG:ConsOk Tryz.prog (mkG [(156,fun l=>c8 (bD [.sl .clause,.o] l))] []):=av (cgc (g_.norm [.sl .clause,.o]) cg0) cg0;refine ax [.o] mixed am hG (fn:=Tryz.f116) (c:=aa Tryz.f116) kr kr kr kr (bB fun s_=>(bI (aP fun q0=>(kc (bW fun k2=>(aP fun q2=>(aj ((aj ((aj (fun hp=>?_))))))))))));dsimp only[aw]at hp;refine⟨nbl rfl,L0,ag _,?_⟩;unfold aa Tryz.f116;try unfold et
 exact YJ
def eu (s_:List Clause)(q0:Int)(k2:PleasCourt)(q2:Int):Bool:=(decide ((fe s_ q0 k2 q2)>=0))
@[go_sem] def dP:List SV->Option Con:=(pR .clause fun s_=>(pFn 207 (pX .int fun q0=>(pXF 174 (pXX .pleasCourt fun k2=>(pX .int fun q2=>(pE ((pE ((pE (.det True (.v (.bool (eu s_ q0 k2 q2)))))))))))))))
theorem gc:FnOk Tryz.prog 116 dP:=by
 have hG:ConsOk Tryz.prog (mkG [(156,fun l=>c8 (bD [.sl .clause,.o] l))] []):=av (cgc (g_.norm [.sl .clause,.o]) cg0) cg0;refine ax [.o] mixed am hG (fn:=Tryz.f116) (c:=aa Tryz.f116) kr kr kr kr (bB fun s_=>(bI (aP fun q0=>(kc (bW fun k2=>(aP fun q2=>(aj ((aj ((aj (fun hp=>?_))))))))))));dsimp only[aw]at hp;refine⟨nbl rfl,L0,ag _,?_⟩;unfold aa Tryz.f116;try unfold eu
 exact YJ
@[go_sem] noncomputable def cA:List SV->Option Con:=fun l=>(orC (co l) (orC (cp l) (orC (cq l) (orC (cr l) (orC (dO l) (dP l))))))
theorem gm:FnOk Tryz.prog 116 cA:=(FnOk.or dH (FnOk.or dI (FnOk.or dJ (FnOk.or dL (FnOk.or gb gc)))))
def qh (k_:PleasCourt)(q:Int)(k2:PleasCourt)(q2:Int):Bool:=(et k_.plea.clauses q k2 q2)
@[go_sem] def s5:List SV->Option Con:=(pX .pleasCourt fun k_=>(pI fun q=>(pFn 166 (pXX .pleasCourt fun k2=>(pX .int fun q2=>(pE ((pE (.det True (.v (.bool (qh k_ q k2 q2))))))))))))
theorem YK {p:Prop}(h:p:=by simp only[go_sem,Nat.reduceBEq,Nat.reduceLeDiff,Nat.reduceLT,decide_true,Nat.reduceAdd,Nat.reduceSub,Nat.reduceMul,Int.reduceLE,Int.reduceLT,Int.reduceToNat,Int.reduceNeg,reduceCtorEq,cA];all_goals exact cl):p:=h
theorem yn:FnOk Tryz.prog 164 s5:=by
 have hG:ConsOk Tryz.prog (mkG [(116,fun l=>cA (bD [.sl .clause,.o] l))] []):=av (cgc (gm.norm [.sl .clause,.o]) cg0) cg0;refine ax [.o] mixed am hG (fn:=Tryz.f164) (c:=aa Tryz.f164) kr kr kr kr (aP fun k_=>(bY fun q=>(bI (bW fun k2=>(aP fun q2=>(aj ((aj (fun hp=>?_)))))))));dsimp only[aw]at hp;refine⟨nbl rfl,L0,ag _,?_⟩;unfold aa Tryz.f164;try unfold qh
 exact YK
def qi (k_:PleasCourt)(q:Int)(k2:PleasCourt)(q2:Int):Bool:=(eu k_.plea.clauses q k2 q2)
@[go_sem] def s6:List SV->Option Con:=(pX .pleasCourt fun k_=>(pI fun q=>(pFn 174 (pXX .pleasCourt fun k2=>(pX .int fun q2=>(pE ((pE (.det True (.v (.bool (qi k_ q k2 q2))))))))))))
theorem yo:FnOk Tryz.prog 164 s6:=by
 have hG:ConsOk Tryz.prog (mkG [(116,fun l=>cA (bD [.sl .clause,.o] l))] []):=av (cgc (gm.norm [.sl .clause,.o]) cg0) cg0;refine ax [.o] mixed am hG (fn:=Tryz.f164) (c:=aa Tryz.f164) kr kr kr kr (aP fun k_=>(bY fun q=>(bI (bW fun k2=>(aP fun q2=>(aj ((aj (fun hp=>?_)))))))));dsimp only[aw]at hp;refine⟨nbl rfl,L0,ag _,?_⟩;unfold aa Tryz.f164;try unfold qi
 exact YK
@[go_sem] noncomputable def jk:List SV->Option Con:=fun l=>(orC (oi l) (orC (oj l) (orC (ol l) (orC (oo l) (orC (s5 l) (s6 l))))))
theorem ov:FnOk Tryz.prog 164 jk:=(FnOk.or rI (FnOk.or rJ (FnOk.or rK (FnOk.or rL (FnOk.or yn yo)))))
def mo (k_:PleasCourt)(q:Int):Bool:=(bif(aZ .int .bool k_.strict q)then true else(bif((aZ .int .bool k_.strict (i64.wrap (0 - q))) ||(!(qd k_ q k_)))then false else(!(qh k_ (i64.wrap (0 - q)) k_ q))))
@[go_sem] def s7:List SV->Option Con:=(pX .pleasCourt fun k_=>(pI fun q=>(pE (.det True (.v (.bool (mo k_ q)))))))
theorem Ul {p:Prop}(h:p:=by simp only[go_sem,Nat.reduceBEq,Nat.reduceLeDiff,Nat.reduceLT,decide_true,Nat.reduceAdd,Nat.reduceSub,Nat.reduceMul,Int.reduceLE,Int.reduceLT,Int.reduceToNat,Int.reduceNeg,reduceCtorEq,jk];all_goals exact cl):p:=h
theorem yp:FnOk Tryz.prog 132 s7:=by
 have hG:ConsOk Tryz.prog (mkG [(164,jk)] []):=av (cgc ov cg0) cg0;refine ax [.o] mixed am hG (fn:=Tryz.f132) (c:=aa Tryz.f132) kr kr kr kr (aP fun k_=>(bY fun q=>(aj (fun hp=>?_))));dsimp only[aw]at hp;refine⟨nbl rfl,L0,ag _,?_⟩;unfold aa Tryz.f132;try unfold mo
 exact Ul
def mT (k_:PleasCourt)(q:Int):Bool:=(aZ .int .bool k_.strict (i64.wrap (0 - q)))
@[go_sem] def qu:List SV->Option Con:=(pXX .pleasCourt fun k_=>(pX .int fun q=>(pE (.det True (.v (.bool (mT k_ q)))))))
theorem wu:FnOk Tryz.prog 170 qu:=by
 have hG:ConsOk Tryz.prog (mkG [] []):=av cg0 cg0;refine ax [.o] mixed am hG (fn:=Tryz.f170) (c:=aa Tryz.f170) kr kr kr kr (bW fun k_=>(aP fun q=>(aj (fun hp=>?_))));dsimp only[aw]at hp;refine⟨nbl rfl,L0,ag _,?_⟩;unfold aa Tryz.f170;try unfold mT
 exact zq1
def mU (k_:PleasCourt)(q:Int):Bool:=(!(qf k_ q k_))
@[go_sem] def qv:List SV->Option Con:=(pXX .pleasCourt fun k_=>(pX .int fun q=>(pE (.det True (.v (.bool (mU k_ q)))))))
theorem wv:FnOk Tryz.prog 171 qv:=by
 have hG:ConsOk Tryz.prog (mkG [(164,jk)] []):=av (cgc ov cg0) cg0;refine ax [.o] mixed am hG (fn:=Tryz.f171) (c:=aa Tryz.f171) kr kr kr kr (bW fun k_=>(aP fun q=>(aj (fun hp=>?_))));dsimp only[aw]at hp;refine⟨nbl rfl,L0,ag _,?_⟩;unfold aa Tryz.f171;try unfold mU
 exact Ul
def mV (k_:PleasCourt)(q:Int):Bool:=(qi k_ (i64.wrap (0 - q)) k_ q)
@[go_sem] def qw:List SV->Option Con:=(pXX .pleasCourt fun k_=>(pX .int fun q=>(pE (.det True (.v (.bool (mV k_ q)))))))
theorem ww:FnOk Tryz.prog 173 qw:=by
 have hG:ConsOk Tryz.prog (mkG [(164,jk)] []):=av (cgc ov cg0) cg0;refine ax [.o] mixed am hG (fn:=Tryz.f173) (c:=aa Tryz.f173) kr kr kr kr (bW fun k_=>(aP fun q=>(aj (fun hp=>?_))));dsimp only[aw]at hp;refine⟨nbl rfl,L0,ag _,?_⟩;unfold aa Tryz.f173;try unfold mV
 exact Ul
@[go_sem] def Gp (x:Int):List SV:=[.v (.int .i64 x)]
@[go_sem] def sf:List SV->Option Con:=(pE (.det True (.fn 159 [] [])))
theorem vZ:FnOk Tryz.prog 119 sf:=by
 have hG:ConsOk Tryz.prog (mkG [] []):=av cg0 cg0;refine ax [.o] mixed am hG (fn:=Tryz.f119) (c:=aa Tryz.f119) kr kr kr kr (aj (fun hp=>?_));refine⟨nbl rfl,L0,ag _,?_⟩;unfold aa Tryz.f119;simp only[go_sem,zg,zh,Nat.reduceBEq,Nat.reduceLeDiff,Nat.reduceAdd,Nat.reduceSub,Nat.reduceMul]
@[go_sem] def jm (k_0:Nat)(s_0:List Int×Int):(List Int)⊕(List Int×Int):=(bif(decide (s_0.2<=32))then(bif(s_0.2 !=0)then .inr ((s_0.1++[s_0.2]),(i64.wrap (s_0.2+1)))else .inr (s_0.1,(i64.wrap (s_0.2+1))))else .inl s_0.1)
def mW (items_:List (List SV))(k_0:Nat)(s_0:List Int×Int):Prop:=((decide (s_0.2<=32))=true->(((s_0.2 !=0)=true->(items_[s_0.1.length]? =some (Gp s_0.2)))/\((s_0.2 !=0)=false->((s_0.2 !=0)=false))))
def a6:List Int:=(match aq (jm) 66 0 (([]:List Int),(-32))with| .inl x_0_0=>x_0_0| .inr s_0=>default)
def fE (items_:List (List SV)):Prop:=(okI (jm) (mW items_) 66 0 (([]:List Int),(-32))/\(∀ z_,aq (jm) 66 0 (([]:List Int),(-32))≠ .inr z_)/\(∀ x_0_0,aq (jm) 66 0 (([]:List Int),(-32))=.inl x_0_0->(items_.length=x_0_0.length)))
theorem tQ (items_:List (List SV))(hp:fE items_):FG Tryz.prog 159 (fun y=>[y]) [] items_:=by
 unfold fE at hp;refine JJ mixed am (fn:=Tryz.f159) (c:=aa Tryz.f159) kr kr kr kr rfl (n:=0) rfl (G:=fun r_=>BK [] [] (Hb items_ r_)) (fun r_ hy=>?_) (fun args w=>by kernel_rfl);have hG:ConsOk Tryz.prog (BK [] [] (Hb items_ r_)):=zK cg0 cg0 hy;refine⟨hG,nbl rfl,(fun id st=>bif Nat.beq id 0 then some (Xx (ρ:=(List Int)) (σ:=(List Int×Int)) 1 [] [0] (fun k_0 s_0=>⟨[(0,.os 0),(2,.v (.int .i64 s_0.2))],[.ab (r_.1 (s_0.1.length+1))]⟩) (jm) (mW items_) 66 (([]:List Int),(-32)) (fun _=>.normal) (fun x_0_0=>⟨[],[.ab (r_.1 (x_0_0.length+1))]⟩) ⟨[],[.ab (r_.1 0)]⟩ st)else none),?_,?_⟩;unfold aa Tryz.f159;simp only[ap,true_and,and_true];refine Ic mixed am hG kr (fun _=>rfl) fun k_0 s_0 hq0=>⟨L0,ag _,?_⟩;unfold mW at hq0;exact Q3 (jl [0]);unfold aa Tryz.f159;exact Q3 (jl [0])
def uX (q:Int)(m:List (Int×Bool)):Bool:=(!(aZ .int .bool m q))
@[go_sem] def xn:List SV->Option Con:=(pI fun q=>(pXM .int .bool fun m=>(pE (.det True (.v (.bool (uX q m)))))))
theorem Cf:FnOk Tryz.prog 158 xn:=by
 have hG:ConsOk Tryz.prog (mkG [] []):=av cg0 cg0;refine ax [.o] mixed am hG (fn:=Tryz.f158) (c:=aa Tryz.f158) kr kr kr kr (bY fun q=>(JG fun m=>(aj (fun hp=>?_))));dsimp only[aw]at hp;refine⟨nbl rfl,L0,ag _,?_⟩;unfold aa Tryz.f158;try unfold uX
 exact zq1
@[go_sem] def lX (s_:List Int)(m:List (Int×Bool))(k_0:Nat)(s_0:Unit):Int⊕Unit:=(bif(uX (s_.getD k_0 0) m)then .inl (k_0:Int)else .inr ())
def jM (s_:List Int)(m:List (Int×Bool)):Int:=(match aq (lX s_ m) s_.length 0 ()with| .inl x_0_0=>x_0_0| .inr s_0=>(-1))
@[go_sem] def mI:List SV->Option Con:=(pR .int fun s_=>(pFn 158 (pXM .int .bool fun m=>(pE ((pE (.det True (.v (.int .i64 (jM s_ m))))))))))
theorem ta:FnOk Tryz.prog 203 mI:=by
 have hG:ConsOk Tryz.prog (mkG [(158,xn)] []):=av (cgc Cf cg0) cg0;refine ax [.o] mixed am hG (fn:=Tryz.f203) (c:=aa Tryz.f203) kr kr kr kr (bB fun s_=>(bI (JG fun m=>(aj ((aj (fun hp=>?_)))))));dsimp only[aw]at hp;refine⟨nbl rfl,(fun id st=>bif Nat.beq id 0 then some (LCR (ρ:=Int) (σ:=Unit) 0 [] [] (fun k_0 s_0=>⟨[(0,.rs .int s_),(1,.fn 158 [] [.ep [.rm .int .bool m] 0]),(7,.v (.int .i64 (s_.length:Int))),(8,.v (.int .i64 (k_0:Int)))],[]⟩) (lX s_ m) pT s_.length () (s_.length<=aI) (fun _=>.ret) (fun x_0_0=>⟨[(4,.v (.int .i64 x_0_0))],[]⟩) st)else none),?_,?_⟩;unfold aa Tryz.f203;simp only[ap,true_and,and_true];refine a8 mixed am hG kr (fun _=>rfl) (s_.length:Int) rfl iB (fun hb0 k_0 s_0 hlt0 _ hw hc=>⟨L0,ag _,?_⟩) (fun hb0 s_0 hc=>?_);exact bT (jl []);exact bN (jl []);unfold aa Tryz.f203;try unfold jM
 exact zq1
@[go_sem] noncomputable def jt:List SV->Option Con:=fun l=>(orC (jK l) (orC (jh l) (mI l)))
theorem tD:FnOk Tryz.prog 203 jt:=(FnOk.or ny (FnOk.or lW ta))
def iR (s_:List Int)(m:List (Int×Bool)):Bool:=(decide ((jM s_ m)>=0))
@[go_sem] def kQ:List SV->Option Con:=(pR .int fun s_=>(pFn 158 (pXM .int .bool fun m=>(pE ((pE (.det True (.v (.bool (iR s_ m))))))))))
theorem ae6 {p:Prop}(h:p:=by simp only[go_sem,Nat.reduceBEq,Nat.reduceLeDiff,Nat.reduceLT,decide_true,Nat.reduceAdd,Nat.reduceSub,Nat.reduceMul,Int.reduceLE,Int.reduceLT,Int.reduceToNat,Int.reduceNeg,reduceCtorEq,jt];all_goals exact cl):p:=h
theorem ri:FnOk Tryz.prog 157 kQ:=by
 have hG:ConsOk Tryz.prog (mkG [(203,fun l=>jt (bD [.sl .int,.o] l))] []):=av (cgc (tD.norm [.sl .int,.o]) cg0) cg0;refine ax [.o] mixed am hG (fn:=Tryz.f157) (c:=aa Tryz.f157) kr kr kr kr (bB fun s_=>(bI (JG fun m=>(aj ((aj (fun hp=>?_)))))));dsimp only[aw]at hp;refine⟨nbl rfl,L0,ag _,?_⟩;unfold aa Tryz.f157;try unfold iR
 exact ae6
@[go_sem] noncomputable def iD:List SV->Option Con:=fun l=>(orC (iP l) (orC (iq l) (kQ l)))
theorem rD:FnOk Tryz.prog 157 iD:=(FnOk.or lw (FnOk.or kA ri))
end Go.Sx
end
