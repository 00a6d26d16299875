/- Part of the proof that the law RefuseHolds returns true and leaves its arguments as they were, for all arguments of bulk at most 1048576 (the Upto form). -/
import Derived.Test.YtaikmgjfkejlkaaGreatH106
import Derived.Calls
set_option linter.all false
set_option maxHeartbeats 4000000
set_option maxRecDepth 100000
section
namespace Go.Sx
open Go.Proofs Tryz
abbrev SV.u (n:Nat):SV:=.v (.int .u64 (n:Int))
def AS (a:List (Nat×(m0)))(b:List (Nat×(List SV->List Ob->Option arV)))(Y:List SV->Res->Option as9):Cons:=⟨mkP a,mkO b,Y⟩
variable {ps:List (Nat×(m0))}{os:List (Nat×(List SV->List Ob->Option arV))}{Y:List SV->Res->Option as9}
def anV:(AS ps os Y).p=mkP ps:=(rfl)
def anW:(AS ps os Y).o=mkO os:=(rfl)
def anX:(AS ps os Y).y=Y:=(rfl)
attribute[go_sem]anV anW anX
def BT{P:Program}{E:List (Nat×(m0))}{O:List (Nat×(List SV->List Ob->Option arV))}(a:∀ x∈E,X1 P x.1 x.2)(b:∀ x∈O,arT P x.1 x.2)(V:YOk P Y):arD P (AS E O Y):=⟨RA E a,RB O b,V⟩
def C90:List SV->List Ob->Option arV:=λl h=>noH h ((pU λn=>pU λd=>pE { α:=Unit,pre:=True,post:=λ_=>True,res:=λ_=>.ret (.fn 336 [] [.ptr 0 0,.ptr 1 0]) [.cells [.v (.int .u64 n)],.cells [.v (.int .u64 d)]]}) l)
theorem afp:arT prog 309 C90:=by
 have hG:arD prog (mkG [] []):=na (by simp) (by simp);refine oE mixed aB hG (fn:=f309) (c:=ae f309) kr kr kr kr λl o E h V=>?_;obtain⟨rfl,h⟩:=Tr h;obtain⟨n,l0,rfl,O⟩:=L_ h;obtain⟨d,l1,rfl,h1⟩:=L_ O;obtain⟨rfl,rfl⟩:=nc h1;refine⟨nbl rfl,L0,by unfold ae f309;simp[ak,and_self],?_⟩;unfold ae f309;simp only[go_sem,true_imp_iff,Nat.reduceBEq,true_and];refine⟨(),_,_,[0,1],rfl,?_⟩;simp only[go_sem,Nat.reduceBEq,Nat.reduceLeDiff,true_and,and_true];exact⟨rfl,rfl⟩
def Dc:Nat->Nat->Nat->List Nat
 |0,n,d=>if n=0 then []else [n,d]|f+1,n,d=>if n=0 then []else n::(if n % max d 1=0 then [d]else Dc f d (n % max d 1))
def sX (f n d:Nat):List (List SV):=(Dc f n d).map λx=>[SV.u x]
theorem X4 (f d:Nat):sX f 0 d=[]:=by cases f <;>rfl
theorem X5 {f n d:Nat}(hn:n≠0)(V:d<=f):∃ T,sX f n d=[SV.u n]::T/\(n % max d 1=0->T=[[SV.u d]])/\(n % max d 1≠0->∃ O,T=sX O d (n % max d 1)/\n % max d 1<=O/\n % max d 1<d):=by
 cases f with
 |zero=>
  have hd:d=0:=g5
  subst hd;refine⟨[[SV.u 0]],by simp[sX,Dc,hn],λ_=>rfl,λh=>?_⟩;exfalso;apply h;simp[Nat.mod_one]
 |succ f=>
  by_cases E:n % max d 1=0
  exact⟨[[SV.u d]],by simp[sX,Dc,hn,E],λ_=>rfl,λh=>absurd E h⟩;refine⟨sX f d (n % max d 1),by simp[sX,Dc,hn,E],λh=>absurd h E,λ_=>⟨f,rfl,?_⟩⟩;have hlt:n % max d 1<max d 1:=aqq _ g5;omega
theorem X6 (n d:Nat):((n:Int).tmod (if(d:Int) <1 then 1 else(d:Int)))=((n % max d 1:Nat):Int):=by
 have e:(if(d:Int) <1 then(1:Int)else(d:Int))=((max d 1:Nat):Int):=by split <;>omega
 rw[e];rfl
open Classical in
theorem afq (n0 E:Nat):AQ prog 336 (λy=>[y,.ptr 1 0,.ptr 2 0]) [.cells [SV.u n0],.cells [SV.u E]] (sX E n0 E):=by
 refine OD (λr hr hy=>?_) (λargs w=>by kernel_rfl);have hG:arD prog (AS [] [] (itY (sX E n0 E) r)):=BT (by simp) (by simp) hy;refine⟨λl h=>if l=[.os 0,.ptr 1 0,.ptr 2 0]/\h=[.ab (r 1),.cells [SV.u n0],.cells [SV.u E]]then some { α:=Nat,pre:=True,post:=λj=>j=0\/j=(sX E n0 E).length+1,res:=λj=>.ret (.tup []) [.ab (r j),.dead,.dead]}else none,
  ?_,_,if_pos ⟨rfl,rfl⟩,trivial,λj hj=>⟨_,j,_,rfl,hj⟩⟩
 refine oE mixed aB hG (fn:=f336) (c:=ae f336) kr kr kr kr λl o con h hp=>?_;split at h
 rename_i hlo;obtain⟨rfl,rfl⟩:=hlo;cases h;refine⟨nbl rfl,λid st=>bif Nat.beq id 0 then some { α:=Nat×Bool,pre:=lk 0 st.t=.os 0/\lk 1 st.t=.ptr 1 0/\lk 2 st.t=.ptr 2 0/\st.h=[.ab (r 1),.cells [SV.u n0],.cells [SV.u E]],post:=λj=>j.1=0\/j.1=(sX E n0 E).length+1,ex:=λj=>bif j.2 then .ret else .normal,out:=λj=>⟨[],[.ab (r j.1),.dead,.dead]⟩:asq}else none,?_,?_⟩;refine ur mixed aB hG kr λst lc hC hp=>?_;simp[go_sem,Nat.reduceBEq,aoo]at hC;subst hC;have⟨t,h⟩:=st;obtain⟨h0,h1,h2,rfl⟩:=hp;refine⟨Nat×Nat×Nat×Nat,λx=>⟨[(0,.os 0),(1,.ptr 1 0),(2,.ptr 2 0)],[.ab (r (x.1+1)),.cells [SV.u x.2.2.1],.cells [SV.u x.2.2.2]]⟩,λx=>x.2.2.2<=x.2.1/\(sX E n0 E).drop x.1=sX x.2.1 x.2.2.1 x.2.2.2/\x.1<=(sX E n0 E).length,λx=>x.2.2.2,(0,E,n0,E),[0,1,2],⟨aom _,rfl,aoV _⟩,aom _,?_,?_⟩;simp only[go_sem,h0,h1,h2];decide;rintro⟨k,f,n,d⟩ ⟨hf,O,hk⟩;refine⟨L0,_,by simp[ak,and_self],λ_ _ q=>q,?_⟩;simp only[go_sem,Da hr,true_imp_iff,X6,aot,false_imp_iff,Nat.reduceBEq,Nat.reduceLeDiff,true_and];have hget:∀ (l:List (List SV)) (j:Nat),l=(sX E n0 E).drop k->(sX E n0 E)[k+j]? =l[j]?:=λl j e=>by rw[e,aqK]
 have V:(sX f n d).length=(sX E n0 E).length - k:=by rw[<-O,apB]
 refine⟨λhn=>?_,λhn=>?_⟩;have W:n≠0:=by simpa using hn
 have⟨T,e1,e2,e3⟩:=X5 W hf;have hT:(sX E n0 E).drop (k+1)=T:=by rw[<-arb,O,e1];rfl
 have X:=hget _ 0 O.symm;rw[e1]at X;have hk1:k+1<=(sX E n0 E).length:=by
  have:=(aop.1 X).1;omega
 refine⟨X,⟨λ_=>⟨by split <;>omega,rfl,λh2=>?_,λh2=>?_⟩,λh2=>?_⟩,?_⟩;have h3:n % max d 1=0:=by
  have:=eq_of_beq h2;omega
 have Y:=e2 h3;have hl2:(sX E n0 E).length=k+2:=by
  have:=congrArg List.length hT;rw[Y]at this;simp at this;omega
 refine⟨?_,⟨(k+1+2,true),[0,1,2],.inr (by rw[hl2]),rfl,⟨rfl,rfl,rfl⟩,by simp[I5,LH,Gd,ap,d_,wV,xQ]⟩,⟨(0,true),[0,1,2],.inl rfl,rfl,⟨rfl,rfl,rfl⟩,by simp[I5,LH,Gd,ap,d_,wV,xQ]⟩⟩;have:(sX E n0 E)[k+1]? =T[0]?:=by rw[<-hT,aqK]
 rw[this,Y];rfl;have h3:n % max d 1≠0:=λe=>by rw[e]at h2;simp at h2
 have⟨f',m1,m2,m3⟩:=e3 h3;exact⟨(k+1,f',d,n % max d 1),[0,1,2],⟨m2,by rw[hT,m1],hk1⟩,m3,⟨rfl,rfl,rfl⟩,by simp[I5,LH,Gd,ap,wV,xQ,nth,oj,ren,wkL,S4]⟩;exact absurd hn (by rw[h2];simp);exact⟨(0,false),[0,1,2],.inl rfl,rfl,⟨rfl,rfl,rfl⟩,by simp[I5,LH,Gd,ap,d_,wV,xQ]⟩;have W:n=0:=by simpa using hn
 subst W;rw[X4]at V;simp at V;exact⟨by simpa using hn,(k+1,false),[0,1,2],.inr g5,rfl,⟨rfl,rfl,rfl⟩,by simp[I5,LH,Gd,ap,d_,wV,xQ]⟩;unfold ae f336;simp only[go_sem,Nat.reduceBEq,true_and];rintro⟨j,b⟩ hj;cases b;exact⟨j,_,_,[0,1,2],hj,rfl,aom 3,by simp only[go_sem];decide⟩;exact⟨j,_,_,[0,1,2],hj,rfl,aom 3,by simp only[go_sem];decide⟩;cases h
def OM (n d:Nat):Nat:=if d=0 then n else(Dc d n d).getLastD d
def C83:m0:=pU λn=>pU λd=>pE (.det (0<=n/\0<=d) (SV.u (OM n.toNat d.toNat)))
theorem X7:X1 prog 274 C83:=by
 have hG:arD prog (mkG [] [(309,C90)]):=na (by simp) (by
  intro x E;simp[aoD,apn,or_false]at E;rcases E with rfl;exact afp)
 refine Xa false mixed aB hG (fn:=f274) (c:=ae f274) kr kr kr kr λl con h O=>?_;obtain⟨n',l0,rfl,h0⟩:=L_ h;obtain⟨d',l1,rfl,h1⟩:=L_ h0;obtain⟨rfl,rfl⟩:=nc h1;have⟨hn,hd⟩:=O;obtain⟨n,rfl⟩:=apy hn;obtain⟨d,rfl⟩:=apy hd;refine⟨nbl rfl,λid st=>bif Nat.beq id 0 then some { α:=Unit,pre:=st.h=[.cells [SV.u d],.cells [SV.u n],.cells [SV.u d]]/\lk 12 st.t=.fn 336 [] [.ptr 1 0,.ptr 2 0]/\lk 4 st.t=.ptr 0 0,post:=λ_=>True,ex:=λ_=>.normal,out:=λ_=>⟨[(4,.ptr 0 0)],[.cells [SV.u ((Dc d n d).getLastD d)],.dead,.dead]⟩:asq}else none,?_,?_⟩;unfold ae f274;simp only[ak,true_and,and_true];refine OG mixed aB hG (by decide) (by decide) kr kr λst lc hC O=>?_;simp only[go_sem,Nat.reduceBEq,aoo]at hC;subst hC;have⟨t,h⟩:=st;obtain⟨rfl,V,h4⟩:=O;refine⟨336,[.ptr 1 0,.ptr 2 0],sX d n d,Nat,[(4,.ptr 0 0)],λv=>[.cells [SV.u v],.dead,.dead],λk v=>v=((Dc d n d).take k).getLastD d,λ_ _=>False,d,[0,1,2],V,rfl,aom _,?_,afq n d,?_,?_,λ_ h=>h.elim,λ_ _ h=>h.elim⟩;show Sub [0,1,2] 3 ⟨t,[.cells [SV.u d],.dead,.dead]⟩ ⟨[(4,.ptr 0 0)],[.cells [SV.u d],.dead,.dead]⟩;simp only[go_sem,h4];decide;intro k y args W Y;unfold sX at W;rw[apj,apz]at W;obtain⟨x,E,rfl⟩:=W;refine⟨rfl,L0,_,λl=>by simp[ak],λl=>by simp[ak],λ_ _ q=>q,?_⟩;show exec ts _ L0 _ ⟨[(13,SV.u x),(4,SV.ptr 0 0)],[.cells [SV.u y],.dead,.dead]⟩ _;simp only[go_sem,true_imp_iff,Nat.reduceBEq,Nat.reduceLeDiff,true_and];refine⟨x,[0,1,2],?_,aom 3,?_⟩;have hlt:=(aop.1 E).1;have X:=(aop.1 E).2;show x=((Dc d n d).take (k+1)).getLastD d;rw[aoX hlt,X];simp[List.getLastD_concat];simp only[go_sem];decide;intro y Y;refine⟨(),[0,1,2],trivial,rfl,aom _,?_⟩;have hy:y=(Dc d n d).getLastD d:=by rw[Y,List.take_of_length_le (by simp[sX])]
 subst hy;simp only[go_sem];decide;unfold ae f274;simp only[go_sem,C90,true_imp_iff,Nat.reduceBEq,Nat.reduceLeDiff,Nat.reduceAdd,true_and];refine⟨λh=>?_,λh _ _=>?_⟩;have h':d=0:=by simpa using h
 simp[OM,h'];have h':d≠0:=by simpa using h
 simp[OM,h']
attribute [go_sem] C83
end Go.Sx
end
section
namespace Go.Sx
open Go.RowKit
inductive asv:St->St->Prop where
 |refl (st:St):asv st st
 |cell {st:St} {t:List (Nat×SV)} {h:List Ob} {i j:Nat} {l:List SV} (o:Ob):asv st ⟨t,h⟩->ap h i=.cells l->l[j]? =some (.v (.slice none 0 0))->((∃ k,o=.row k [])\/∃ k,o=.ar2 k [])->asv st ⟨t,cW h i (.cells (l.set j (.os h.length)))++[o]⟩
 |slot {st:St} {t:List (Nat×SV)} {h:List Ob} {i:Nat} (o:Ob):asv st ⟨t,h⟩->lk i t=.v (.slice none 0 0)->((∃ k,o=.row k [])\/∃ k,o=.ar2 k [])->asv st ⟨(i,.os h.length)::t,h++[o]⟩
 |atG {st:St} {t:List (Nat×SV)} {h:List Ob} {i:Nat} (k:Tag):asv st ⟨t,h⟩->lk i t=.e0->asv st ⟨(i,.os h.length)::t,h++[.row k []]⟩
section
variable {P:Program}{F:Nat->Prop}{w0:Bs}{N:Nat}
theorem Kx (h:List Ob)(o:Ob):ap (h++[o]) h.length=o:=by simp_all [uj,ap]
variable {h:List Ob}{a:Act}{w:World}{t:List (Nat×SV)}
theorem Tt{own:Own}(hr:arE F w0 N own ⟨t,h⟩ a w)(o:Ob)(ho:(∃ k,o=.row k [])\/∃ k,o=.ar2 k []):
  ∃ ee,arE F w0 N ee ⟨t,h++[o]⟩ a w/\(∀ id hd,own id=some hd->ee id=some hd)/\ee h.length=some { v:=.slice none 0 0}:=by
 let ee:Own:=λid=>if id=h.length then some { v:=.slice none 0 0}else own id
 have V:∀ id hd,own id=some hd->ee id=some hd:=λid hd e=>by
  have:id≠h.length:=by have:=hr.hp.dom id hd e;grind
  grind
 have E:∀ id hd b,ee id=some hd->b∈hd.bs->own id=some hd:=λid hd b e O=>by
  grind
 have hc:asa F own w F ee w:=⟨λid hd e=>⟨hd,V id hd e,.refl _⟩,λb _ hn=>⟨by
  rintro (hf| ⟨id,hd,e,O⟩);exact hn (.inl hf);exact hn (.inr ⟨id,hd,E id hd b e O,O⟩),rfl⟩⟩
 refine⟨ee,⟨hr.size,hr.defers,⟨λid hd e=>?_,hr.hp.arN,λid hd b e O=>hr.hp.apart id hd b (E id hd b e O) O,λi j hi hj b W X b1 b2=>hr.hp.inj i j hi hj b (E i hi b W b1) (E j hj b X b2) b1 b2,λid hd b e O=>hr.hp.lt id hd b (E id hd b e O) O,λid hd=>?_⟩,
  ⟨λid hd e=>?_,λid hd b e O=>hr.fr.base id hd b (E id hd b e O) O,hr.fr.os,hr.fr.tape,hr.fr.output,hr.fr.size,hr.fr.block⟩,λt=>(hr.slots t).carry hc⟩,V,by simp[ee]⟩
 simp only[aoq,aon,aoI];by_cases hi:id=h.length
 omega;simp only[ee,if_neg hi]at e;have:=hr.hp.dom id hd e;grind;simp only at hd |-;by_cases hi:id<h.length
 rw[uj,if_pos hi]at hd |-;obtain⟨hd',W,X⟩:=hr.hp.obs id hd;exact⟨hd',V id hd' W,X.carry hc (aom _) λ_ _=>rfl⟩;by_cases Y:id=h.length
 subst Y;rw[Kx];refine⟨_,by simp[ee];rfl,?_⟩;rcases ho with⟨k,rfl⟩ | ⟨k,rfl⟩;exact .inl ⟨none,rfl,rfl,rfl⟩;exact .inl ⟨rfl,rfl,rfl,rfl⟩;rw[oz (by simp;omega)]at hd;cases hd;obtain⟨hd',W,X⟩:=hr.fr.ids id hd e;grind
theorem X8{own:Own}(hr:arE F w0 N own ⟨t,h⟩ a w)(k:Tag)(ad:Option Addr):
  ∃ ee,arE F w0 N ee ⟨t,h++[.row k []]⟩ a w/\(∀ id hd,own id=some hd->ee id=some hd)/\ee h.length=some { v:=.slice ad 0 0}:=by
 let ee:Own:=λid=>if id=h.length then some { v:=.slice ad 0 0}else own id
 have V:∀ id hd,own id=some hd->ee id=some hd:=λid hd e=>by
  have:id≠h.length:=by have:=hr.hp.dom id hd e;grind
  grind
 have E:∀ id hd b,ee id=some hd->b∈hd.bs->own id=some hd:=λid hd b e O=>by
  grind
 have hc:asa F own w F ee w:=⟨λid hd e=>⟨hd,V id hd e,.refl _⟩,λb _ hn=>⟨by
  rintro (hf| ⟨id,hd,e,O⟩);exact hn (.inl hf);exact hn (.inr ⟨id,hd,E id hd b e O,O⟩),rfl⟩⟩
 refine⟨ee,⟨hr.size,hr.defers,⟨λid hd e=>?_,hr.hp.arN,λid hd b e O=>hr.hp.apart id hd b (E id hd b e O) O,λi j hi hj b W X b1 b2=>hr.hp.inj i j hi hj b (E i hi b W b1) (E j hj b X b2) b1 b2,λid hd b e O=>hr.hp.lt id hd b (E id hd b e O) O,λid hd=>?_⟩,
  ⟨λid hd e=>?_,λid hd b e O=>hr.fr.base id hd b (E id hd b e O) O,hr.fr.os,hr.fr.tape,hr.fr.output,hr.fr.size,hr.fr.block⟩,λt=>(hr.slots t).carry hc⟩,V,by simp[ee]⟩
 simp only[aoq,aon,aoI];by_cases hi:id=h.length
 omega;simp only[ee,if_neg hi]at e;have:=hr.hp.dom id hd e;grind;simp only at hd |-;by_cases hi:id<h.length
 rw[uj,if_pos hi]at hd |-;obtain⟨hd',W,X⟩:=hr.hp.obs id hd;exact⟨hd',V id hd' W,X.carry hc (aom _) λ_ _=>rfl⟩;by_cases Y:id=h.length
 subst Y;rw[Kx];refine⟨_,by simp[ee];rfl,?_⟩;exact .inl ⟨ad,rfl,rfl,rfl⟩;rw[oz (by simp;omega)]at hd;cases hd;obtain⟨hd',W,X⟩:=hr.fr.ids id hd e;grind
theorem asv.rel{st st':St}(hn:asv st st'){own:Own}(hr:arE F w0 N own st a w):∃ ee,arE F w0 N ee st' a w:=by
 induction hn with
 |refl=>grind
 | @slot t h i o _ X ho ih=>
  obtain⟨V,h1⟩:=ih;obtain⟨X2,h2,h3,W⟩:=Tt h1 o ho;refine⟨X2,h2.size,h2.defers,h2.hp,h2.fr,λu=>?_⟩;rw[sW];split
  rename_i e;subst e;have:=h1.slots i;rw[X]at this;rw[c8 this];exact .os (hd:= { v:=.slice none 0 0}) W rfl;exact h2.slots u
 | @atG t h i k _ X ih=>
  obtain⟨V,h1⟩:=ih;have E:=h1.slots i;rw[X]at E;generalize hv:a.tmps.getD i undef=v at E;cases E with
  | @e0 ad=>
   obtain⟨X2,h2,h3,W⟩:=X8 h1 k ad;refine⟨X2,h2.size,h2.defers,h2.hp,h2.fr,λu=>?_⟩;rw[sW];split
   rename_i e;subst e;rw[hv];exact .os (hd:= { v:=.slice ad 0 0}) W rfl;exact h2.slots u
 | @cell t h i j l o _ hc X ho ih=>
  obtain⟨V,h1⟩:=ih;obtain⟨X2,h2,h3,W⟩:=Tt h1 o ho;have hlt:i<h.length:=by
   grind [oz]
  have Y:(cW h i (.cells (l.set j (.os h.length)))).length=h.length:=by rw[cT,if_pos hlt]
  refine⟨X2,h2.size,h2.defers,⟨λid hd e=>?_,h2.hp.arN,h2.hp.apart,h2.hp.inj,h2.hp.lt,λid hd=>?_⟩,h2.fr,h2.slots⟩;have:=h2.hp.dom id hd e;grind;simp only at hd |-;have O:=h2.hp.obs id;simp only at O;by_cases hi:id<h.length
  rw[uj,if_pos (by rw[Y];exact hi)]at hd |-;rw[uj,if_pos hi]at O;rw[dU]at hd |-;by_cases hii:i=id
  subst hii;rw[if_pos rfl]at hd |-;rw[hc]at O;obtain⟨hd',e1,b,cs,ty,m1,m2,m3,m4,m5⟩:=O rfl;refine⟨hd',e1,b,cs,ty,m1,m2,m3,g6,λj' s E=>?_⟩;rw[ap_]at E;by_cases hj:j=j'
  subst hj;rw[if_pos rfl]at E;split at E
  cases E;have:=m5 j _ X;rw[c8 this];exact .os (hd:= { v:=.slice none 0 0}) W rfl;cases E;grind
  grind
  simp_all [uj,if_neg]
end
section
variable {P:Program}{F:Nat->Prop}{w0:Bs}{ro:Option Nat}{nd:Nat}{ts:Tis}{G:Cons}{L:xP}{N:Nat}
theorem wq {ts:Tis}{G:Cons}{ro:Option Nat}{N:Nat}(hm:P.follows .mixedOrders=true)(hts:ts.ok P)(hG:arD P G){id:Nat}{c:Code}(hc:dq N c=true){C:St->Option asq}
  (h:∀ st O,C st=some O->O.pre->∃ (σ:Type) (D:σ->St) (I:σ->Prop) (m:σ->Nat) (x0:σ) (Y:St) (js:List Nat),I x0/\asv st Y/\st.h.length<=(D x0).h.length/\Sub js st.h.length Y (D x0)/\
   ∀ x,I x->∃ L Qx,ak P ro N L c/\(∀ e st',Qx e st'->wX D I m st.h.length x id (λe st'=>∃ r js,O.post r/\O.ex r=e/\st.h.length<=(O.out r).h.length/\Sub js st.h.length st' (O.out r)) e st')/\exec ts G L c (D x) Qx):my P ro N id (.loop c) C:=by
 intro nd F w0 st O hC hpre own a w hr;obtain⟨σ,D,I,m,x0,Y,js,h1,hN,h2,h3,h4⟩:=h st O hC hpre;obtain⟨ownN,hrN⟩:=hN.rel hr;refine wpIn_mono (Kq hm hts hG hc D I m st.h.length hr.asU _ h4 x0 h1 _ a w (hrN.sub h3 hr.asU h2)) ?_;intro e a' w' hq;have key:∀ ex V ee st',arE V w0 N ee st' a' w'->(∃ r js,O.post r/\O.ex r=ex/\st.h.length<=(O.out r).h.length/\Sub js st.h.length st' (O.out r))->∃ X2 E,arE V w0 N X2 E a' w'/\∃ r,O.post r/\ex=O.ex r/\E=O.out r:=by
  rintro ex V ee st' hst ⟨r,js,W,X,q3,q4⟩;exact⟨_,_,hst.sub q4 hr.asU q3,r,W,X.symm,rfl⟩
 cases e with
 |normal=>obtain⟨V,ee,st',h0,k1,k2⟩:=hq;obtain⟨X2,E,W,X⟩:=key _ V ee st' k1 k2;exact⟨V,X2,E,h0,W,X⟩
 |exit j=>obtain⟨V,ee,st',h0,k1,k2⟩:=hq;obtain⟨X2,E,W,X⟩:=key _ V ee st' k1 k2;exact⟨V,X2,E,h0,W,X⟩
 |ret=>obtain⟨V,ee,st',h0,k1,k2⟩:=hq;obtain⟨X2,E,W,X⟩:=key _ V ee st' k1 k2;exact⟨V,X2,E,h0,W,X⟩
 |panic ch=>
  obtain⟨x,V,ee,st',h0,k1,k2,k3⟩:=hq;obtain⟨X2,E,W,X⟩:=key _ V ee st' k1 k2;exact⟨x,V,X2,E,h0,W,X,k3⟩
 |_=>exact hq.elim
end
section
variable {P:Program}{ρ σ:Type}
def qc (a:St)(b:Nat)(c:St):Prop:= ∃ js,b<=a.h.length/\Sub js b c a
def Mc {E b:St}{a:Nat}(c:List Nat)(d:a<=E.h.length)(e:Sub c a b E):qc E a b:=⟨c,d,e⟩
def BU (D:Nat->σ->St)(n0 k:Nat)(st:St):ρ⊕σ->Prop
 | .inl _=>False| .inr s'=>qc (D (k+1) s') n0 st
def vP (exE:ρ->Ex)(arw:ρ->St)(n0:Nat)(e:Ex)(st:St):ρ⊕σ->Prop
 | .inl x=>exE x=e/\qc (arw x) n0 st| .inr _=>False
def cE (step:Nat->σ->ρ⊕σ)(n:Nat)(exE:ρ->Ex)(arw:ρ->St)(arP:σ->St)(D:Nat->σ->St)(n0 id k:Nat)(s:σ):Ex->St->Prop
 | .normal,st=>k<n/\BU D n0 k st (step k s)| .exit j,st=>bif Nat.beq j id then(n<=k->qc (arP s) n0 st)/\(k<n->vP exE arw n0 .normal st (step k s))else k<n/\vP exE arw n0 (.exit j) st (step k s)| .ret,st=>k<n/\vP exE arw n0 .ret st (step k s)| .pan x,st=>k<n/\vP exE arw n0 (.pan x) st (step k s)
variable {step:Nat->σ->ρ⊕σ}{n n0 id k j:Nat}{exE:ρ->Ex}{arw:ρ->St}{arP:σ->St}{D:Nat->σ->St}{s s':σ}{st:St}{x:Value}{e:Ex}{y:ρ}
@[go_sem] def ah4:= @BU.eq_2
@[go_sem] def ajX:= @vP.eq_1
@[go_sem] def ah5:= @cE.eq_1
@[go_sem] def amq:= @cE.eq_2
@[go_sem] def anY:= @cE.eq_3
@[go_sem] def anZ:= @cE.eq_4
@[congr] theorem adb {r r':ρ⊕σ}(h:r=r'):BU D n0 k st r=BU D n0 k st r':=by rw[h]
@[congr] theorem ajY {st st':St}{e e':Ex}(h:st=st')(he:e=e'):cE step n exE arw arP D n0 id k s e st=cE step n exE arw arP D n0 id k s e' st':=by rw[h,he]
theorem Ky {ts:Tis}{G:Cons}{ro:Option Nat}{N:Nat}(hm:P.follows .mixedOrders=true)(hts:ts.ok P)(hG:arD P G){id:Nat}{c:Code}(hc:dq N c=true){C:St->Option asq}
  (h:∀ st lc,C st=some lc->lc.pre->∃ (ρ σ:Type) (pre:Prop) (step:Nat->σ->ρ⊕σ) (p:Nat->σ->Prop) (n:Nat) (s0:σ) (exE:ρ->Ex) (arw:ρ->St) (arP:σ->St) (D:Nat->σ->St) (O:St) (js:List Nat),
   lc=LC pre (aj step n 0 s0) exE arw arP/\okI step p n 0 s0/\asv st O/\st.h.length<=(D 0 s0).h.length/\Sub js st.h.length O (D 0 s0)/\
   ∀ k s,k<=n->(k<n->p k s)->∃ L,ak P ro N L c/\exec ts G L c (D k s) (cE step n exE arw arP D st.h.length id k s)):my P ro N id (.loop c) C:=by
 refine wq hm hts hG hc λst lc hC hp=>?_;obtain⟨ρ,σ,pre,step,p,n,s0,exE,arw,arP,D,O,js,rfl,h1,hN,h2,h3,h4⟩:=h st lc hC hp;refine⟨Nat×σ,λx=>D x.1 x.2,λx=>x.1<=n/\okI step p (n - x.1) x.1 x.2/\aj step (n - x.1) x.1 x.2=aj step n 0 s0,λx=>n - x.1,(0,s0),O,js,⟨aoV _,g5,by simp⟩,hN,h2,h3,?_⟩;rintro⟨k,s⟩ ⟨hk,hJ,E⟩;simp only at hk hJ E;obtain⟨L,hl,hex⟩:=h4 k s hk (λhlt=>by
  rw[show n - k=(n - k - 1)+1 by omega]at hJ;exact hJ.1)
 refine⟨L,_,hl,?_,hex⟩;have V:∀ e st',k<n->vP exE arw st.h.length e st' (step k s)->∃ r js,(LC pre (aj step n 0 s0) exE arw arP).post r/\(LC pre (aj step n 0 s0) exE arw arP).ex r=e/\st.h.length<=((LC pre (aj step n 0 s0) exE arw arP).out r).h.length/\Sub js st.h.length st' ((LC pre (aj step n 0 s0) exE arw arP).out r):=by
  intro e st' hlt q;cases W:step k s with
  |inr s'=>rw[W]at q;exact q.elim
  |inl x=>
   rw[W]at q;obtain⟨q2,js,q3,q4⟩:=q;rw[show n - k=(n - k - 1)+1 by omega]at E;simp only[aj,W]at E;exact⟨.inl x,js,E,q2,q3,q4⟩
 intro e st' Y;cases e with
 |normal=>
  obtain⟨q1,q2⟩:=Y;cases W:step k s with
  |inl x=>rw[W]at q2;exact q2.elim
  |inr s'=>
   rw[W]at q2;obtain⟨js,q3,q4⟩:=q2;rw[show n - k=(n - (k+1))+1 by omega]at E hJ;simp only[aj,W]at E;exact⟨(k+1,s'),js,⟨q1,hJ.2 s' W,E⟩,g6,q3,q4⟩
 |exit j=>
  have X:(bif Nat.beq j id then(n<=k->qc (arP s) st.h.length st')/\(k<n->vP exE arw st.h.length .normal st' (step k s))else k<n/\vP exE arw st.h.length (.exit j) st' (step k s)):=Y;show bif Nat.beq j id then _ else _;cases hb:Nat.beq j id with
  |true=>
   rw[hb]at X;simp only[cond_true]at X |-;by_cases hlt:k<n
   grind
   obtain⟨js,q3,q4⟩:=X.1 g5;have hkn:k=n:=g5
   subst hkn;simp only[aqg,aj]at E;exact⟨.inr s,js,E,rfl,q3,q4⟩
  |false=>grind
 |ret=>exact V _ _ Y.1 Y.2|pan x=>exact V _ _ Y.1 Y.2
end
def fM (p:Prop)(S:SV)(H:List Ob):arV:= { α:=Unit,pre:=p,post:=λ_=>True,res:=λ_=>.ret S H}
def X9 (n0:Nat)(S:SV)(H h:List Ob):Option SV->Prop
 |some s=>qc ⟨[(0,S)],H⟩ n0 ⟨[(0,s)],h⟩|none=>False
def Tu (n0:Nat)(rs:List ResultVar)(ts:Tis)(S:SV)(H:List Ob):Ex->St->Prop
 | .exit _,_=>False| .normal,st=>X9 n0 S H st.h (u6 (sS ts st rs))| .ret,st=>X9 n0 S H st.h (u6 (sS ts st rs))| .pan _,_=>False
section
variable {P:Program}{ts:Tis}{G:Cons}{n0:Nat}{S s:SV}{H h:List Ob}{rs:List ResultVar}{st:St}{x:Value}{j:Nat}
@[go_sem] def ah6:= @X9.eq_1
@[go_sem] def abi:= @Tu.eq_2
@[go_sem] def ah7:= @Tu.eq_3
variable {Z:Value->St->Prop}
@[go_sem high] theorem afr{p:Prop}{ids:List Nat}{d:Option Nat}{K:St->Prop}:BA ids d st K Z (some (fM p S H))=(p/\LF ids d st K Z (.ret S H)):=by
 show(p/\∀ r:Unit,True->LF ids d st K Z (.ret S H))=_;simp
@[go_sem high] theorem adc{p:Prop}{ids:List Nat}{ops:List Oper}{g:Nat×Bool}{d:Nat}{t:List (Nat×SV)}{h':List Ob}{K:St->Prop}:CY ids ops g (some d) ⟨t,h'⟩ K Z (some (fM p S H))=((dY ops t ops.length g->p/\N0 ids g (some d) ⟨t,h'⟩ K Z (.ret S H))/\(gK ops t ops.length g->K ⟨(d,.gd g.1 g.2 .any)::t,h'⟩)):=by
 show((dY ops t ops.length g->p/\∀ r:Unit,True->N0 ids g (some d) ⟨t,h'⟩ K Z (.ret S H))/\_)=_;simp only[true_imp_iff,forall_const];rfl
def hCR (t:Tag)(k:List t.T->Option arV):List Ob->Option arV
 | [.cells [.os 1],.row k' l] =>if h:k'=t then k (h▸l)else none|_=>none
@[go_sem] theorem an0 {t:Tag}{k:List t.T->Option arV}{l:List t.T}:hCR t k [.cells [.os 1],.row t l]=k l:=by simp[hCR]
theorem zz {t:Tag}{k:List t.T->Option arV}{h:List Ob}{c:arV}(E:hCR t k h=some c):∃ l,h=[.cells [.os 1],.row t l]/\k l=some c:=by
 unfold hCR at E;grind
open Classical in
noncomputable def pQ {α:Type 1}(X:SV)(k:List SV->Option α):List SV->Option α
 |s::r=>if s=X then k r else none| [] =>none
variable {α:Type 1}{X:SV}{k:List SV->Option α}{r:List SV}
@[go_sem] theorem avp:pQ X k (X::r)=k r:=by simp[pQ]
theorem uu{l:List SV}{c:α}(h:pQ X k l=some c):∃ r,l=X::r/\k r=some c:=by
 unfold pQ at h;grind
def pXR {α:Type 1}(t:Tag)(k:List t.T->List SV->Option α):List SV->Option α
 | .ep [.rs k' l] 0::r=>Kt t k r k' l|_=>none
@[go_sem] theorem an1{t:Tag}{k:List t.T->List SV->Option α}{l:List t.T}:pXR t k (.ep [.rs t l] 0::r)=k l r:=by simp[pXR,Kt]
theorem Tv{t:Tag}{k:List t.T->List SV->Option α}{l:List SV}{c:α}(h:pXR t k l=some c):∃ x r,l=.ep [.rs t x] 0::r/\k x r=some c:=by
 unfold pXR at h;grind [Kt]
theorem ON (hm:P.follows .mixedOrders=true)(Y:ts.ok P)(hG:arD P G){f:FuncId}{fn:Func}{c:Code}(hf:P.funcs[f]? =some fn)(hb:fn.body=some c)(V:(fn.name== "runtime.NumGoroutine")=false)
  (hc:dq fn.ntmps c=true) {C:List SV->List Ob->Option arV}
  (h:∀ l o O,C l o=some O->∃ p S H,O=fM p S H/\(p->l.length<=fn.ntmps/\∃ L,ak P none fn.ntmps L c/\exec ts G L c ⟨pn 0 l,o⟩ (Tu o.length fn.results.toList ts S H))):arT P f C:=by
 refine GR hm Y hG hf hb V hc λl o O hC hp=>?_;obtain⟨p,S,H,rfl,h2⟩:=h l o O hC;obtain⟨h3,L,h4,h5⟩:=h2 hp;refine⟨h3,L,_,h4,λe st E=>?_,h5⟩;cases e with
 |normal=>
  change X9 _ _ _ _ _ at E;show Gg _ _ _ _;cases W:u6 (sS ts st fn.results.toList)with
  |none=>rw[W]at E;exact E.elim
  |some s=>rw[W]at E;obtain⟨js,q1,X⟩:=E;exact⟨(),S,H,js,trivial,rfl,q1,X⟩
 |ret=>
  change X9 _ _ _ _ _ at E;show Gg _ _ _ _;cases W:u6 (sS ts st fn.results.toList)with
  |none=>rw[W]at E;exact E.elim
  |some s=>rw[W]at E;obtain⟨js,q1,X⟩:=E;exact⟨(),S,H,js,trivial,rfl,q1,X⟩
 |exit j=>exact E.elim|pan x=>exact E.elim
end
end Go.Sx
end
section
namespace Go.Sx
attribute [go_sem] true_imp_iff false_imp_iff Bool.false_eq_true Int.toNat_natCast Int.toNat_zero true_and and_true and_self implies_true forall_const
def cl {p:Prop}(h:p:=by(first|done|(repeat' (first|with_reducible refine And.intro ?_ ?_|((with_reducible show _≠_);first|assumption|omega|(simp_all [bp,eS];done) |grind) |with_reducible intro _)) <;>(first|done|with_reducible exact Empty.elim ‹Empty› |with_reducible assumption|rfl|omega|assumption|(simp only[*,cond_true,cond_false,aoH,aoS,go_sem,Nat.reduceBEq,Nat.reduceLeDiff,Nat.reduceAdd,Nat.reduceSub,Nat.reduceMul,Int.reduceLE,Int.reduceLT,Int.reduceToNat,Int.reduceNeg,reduceCtorEq];done) |(simp only[*,cond_true,cond_false,aoH,aoS,go_sem,Nat.reduceBEq,Nat.reduceLeDiff,Nat.reduceAdd,Nat.reduceSub,Nat.reduceMul,Int.reduceLE,Int.reduceLT,Int.reduceToNat,Int.reduceNeg,reduceCtorEq];(repeat' (first|with_reducible refine And.intro ?_ ?_|((with_reducible show _≠_);first|assumption|omega|(simp_all [bp,eS];done) |grind) |with_reducible intro _)) <;>(first|done|assumption|rfl|omega|(simp_all [bp,eS];done))) |(simp_all [okI,bp,eS];done) |grind))):p:=h
def cl2 {p:Prop}(h:p:=by(first|done|(repeat' (first|with_reducible refine And.intro ?_ ?_|((with_reducible show _≠_);first|assumption|omega|(simp_all [bp,eS];done) |grind) |with_reducible intro _)) <;>(first|done|with_reducible exact Empty.elim ‹Empty› |with_reducible assumption|rfl|omega|assumption|(simp only[*,go_sem,Nat.reduceBEq,Nat.reduceLeDiff,Nat.reduceAdd,Nat.reduceSub,Nat.reduceMul,Int.reduceLE,Int.reduceLT,Int.reduceToNat,Int.reduceNeg,reduceCtorEq];done) |(simp_all [bp,eS];done)))):p:=h
inductive JL:List Nat->Prop
 |mk (l:List Nat):JL l
def jl (l:List Nat):JL l:=.mk l
variable {js:List Nat}
def fk{E st:St}{n0:Nat}(_:JL js)(h1:n0<=E.h.length:=by(first|(show _<=_;decide) |(simp only[*,go_sem,Nat.reduceBEq,Nat.reduceLeDiff,Nat.reduceAdd,Nat.reduceSub,Nat.reduceMul,Int.reduceLE,Int.reduceLT,Int.reduceToNat,Int.reduceNeg,reduceCtorEq];done) |(simp only[*,go_sem,Nat.reduceBEq,Nat.reduceLeDiff,Nat.reduceAdd,Nat.reduceSub,Nat.reduceMul,Int.reduceLE,Int.reduceLT,Int.reduceToNat,Int.reduceNeg,reduceCtorEq];(repeat' (first|with_reducible refine And.intro ?_ ?_|((with_reducible show _≠_);first|assumption|omega|(simp_all [bp,eS];done) |grind) |with_reducible intro _)) <;>(first|rfl|decide|assumption|omega|(simp_all [bp,eS];done)))))(h2:Sub js n0 st E:=by(first|(show _<=_;decide) |(simp only[*,go_sem,Nat.reduceBEq,Nat.reduceLeDiff,Nat.reduceAdd,Nat.reduceSub,Nat.reduceMul,Int.reduceLE,Int.reduceLT,Int.reduceToNat,Int.reduceNeg,reduceCtorEq];done) |(simp only[*,go_sem,Nat.reduceBEq,Nat.reduceLeDiff,Nat.reduceAdd,Nat.reduceSub,Nat.reduceMul,Int.reduceLE,Int.reduceLT,Int.reduceToNat,Int.reduceNeg,reduceCtorEq];(repeat' (first|with_reducible refine And.intro ?_ ?_|((with_reducible show _≠_);first|assumption|omega|(simp_all [bp,eS];done) |grind) |with_reducible intro _)) <;>(first|rfl|decide|assumption|omega|(simp_all [bp,eS];done))))):qc E n0 st:=Mc js h1 h2
def fk2{E st:St}{n0:Nat}(_:JL js)(h1:n0<=E.h.length:=by(first|(show _<=_;decide) |(simp only[go_sem,Nat.reduceBEq,Nat.reduceLeDiff,Nat.reduceAdd,Nat.reduceSub,Nat.reduceMul,Int.reduceLE,Int.reduceLT,Int.reduceToNat,Int.reduceNeg,reduceCtorEq];(repeat' (first|with_reducible refine And.intro ?_ ?_|((with_reducible show _≠_);first|assumption|omega|(simp_all [bp,eS];done) |grind) |with_reducible intro _)) <;>(first|rfl|decide|assumption|omega|(simp_all [bp,eS];done)))))(h2:Sub js n0 st E:=by(first|(show _<=_;decide) |(simp only[go_sem,Nat.reduceBEq,Nat.reduceLeDiff,Nat.reduceAdd,Nat.reduceSub,Nat.reduceMul,Int.reduceLE,Int.reduceLT,Int.reduceToNat,Int.reduceNeg,reduceCtorEq];(repeat' (first|with_reducible refine And.intro ?_ ?_|((with_reducible show _≠_);first|assumption|omega|(simp_all [bp,eS];done) |grind) |with_reducible intro _)) <;>(first|rfl|decide|assumption|omega|(simp_all [bp,eS];done))))):qc E n0 st:=Mc js h1 h2
variable {α:Type _}{p:α->Prop}
theorem Y1:∀ x∈([]:List α),p x:=λ_ h=>by cases h
theorem cgc{a:α}{l:List α}(h:p a)(t:∀ x∈l,p x):∀ x∈a::l,p x:=λx hx=>by
 rcases aoD.1 hx with rfl|hx;exact h;exact t x hx
attribute [go_sem] if_true
end Go.Sx
end
section
namespace Go.Sx
open Go.RowKit
open IntKind (i64)
section
variable {P:Program}
end
def okL {ρ σ τ:Type}(step:τ->σ->ρ⊕σ)(p:τ->σ->Prop):List τ->σ->Prop
 | [],_=>True|x::l,s=>p x s/\∀ s',step x s=.inr s'->okL step p l s'
def FE {ρ σ τ:Type}{step:τ->σ->ρ⊕σ}{p:τ->σ->Prop}:∀ (l:List τ) (s:σ),(∀ x∈l,∀ s,p x s)->okL step p l s
 | [],_,_=>trivial
 |x::l,s,h=>⟨h x (by simp) s,λs' _=>FE l s' λy hy=>h y (by simp[hy])⟩
section
variable {ρ σ τ:Type}
def rgN (T:List (Nat×SV))(H:σ->List Ob)(n0:Nat)(st:St):ρ⊕σ->Prop
 | .inl _=>False| .inr s'=>qc ⟨T,H s'⟩ n0 ⟨T,st.h⟩
def rgX (exE:ρ->Ex)(T:List (Nat×SV))(Hy:ρ->List Ob)(n0:Nat)(e:Ex)(st:St):ρ⊕σ->Prop
 | .inl y=>exE y=e/\qc ⟨T,Hy y⟩ n0 ⟨T,st.h⟩| .inr _=>False
def rgQ (step:τ->σ->ρ⊕σ)(exE:ρ->Ex)(T:List (Nat×SV))(H:σ->List Ob)(Hy:ρ->List Ob)(n0 id:Nat)(x:τ)(s:σ):Ex->St->Prop
 | .normal,st=>rgN T H n0 st (step x s)| .exit j,st=>rgX exE T Hy n0 (bif Nat.beq j id then .normal else .exit j) st (step x s)| .ret,st=>rgX exE T Hy n0 .ret st (step x s)| .pan _,_=>False
variable {step:τ->σ->ρ⊕σ}{exE:ρ->Ex}{T:List (Nat×SV)}{H:σ->List Ob}{Hy:ρ->List Ob}{n0 id j:Nat}{x:τ}{s s':σ}{y:ρ}{st:St}{e:Ex}
@[go_sem] def amr:= @rgN.eq_2
@[go_sem] def ams:= @rgX.eq_1
@[go_sem] def afs:= @rgQ.eq_1
@[go_sem] def amt:= @rgQ.eq_3
@[go_sem] def ajZ:= @rgQ.eq_2
variable {r r':ρ⊕σ}
@[congr] theorem ah8(h:r=r'):rgN T H n0 st r=rgN T H n0 st r':=by rw[h]
@[congr] theorem ah9{e e':Ex}(h:r=r')(he:e=e'):rgX exE T Hy n0 e st r=rgX exE T Hy n0 e' st r':=by rw[h,he]
end
section
variable {P:Program}{ts:Tis}{G:Cons}{N:Nat}
theorem pw (hm:P.follows .mixedOrders=true)(hts:ts.ok P)(hG:arD P G){id:Nat}{g:Operand}{ps:Array Tmp}{assign body:Code}{C:St->Option asq}
  (hpn:ps.toList.Nodup) (hpN:∀ p∈ps.toList,p<N) (hca:dq N assign=true) (hcb:dq N body=true)
  (h:∀ st lc,C st=some lc->lc.pre->∃ (f:FuncId) (caps:List SV) (τ ρ σ:Type) (l:List τ) (mk:τ->List SV) (step:τ->σ->ρ⊕σ) (p:τ->σ->Prop) (pre:Prop) (s0:σ) (exE:ρ->Ex) (arw:ρ->St) (arP:σ->St) (T:List (Nat×SV)) (H:σ->List Ob) (Hy:ρ->List Ob) (js:List Nat),
   raw st.t g=.fn f [] caps/\lc=LC pre (cG step l s0) exE arw arP/\okL step p l s0/\st.h.length<=(H s0).length/\Sub js st.h.length ⟨st.t,sp (kg st caps) st.h⟩ ⟨T,H s0⟩/\
   AQ P f (λy=>y::caps.map (ren (RG (kg st caps)) 3)) (OF (kg st caps) st.h) (l.map mk)/\
   (∀ x s,p x s->(mk x).length=ps.size/\∃ L,(∀ l,ak P (some l) N L assign)/\(∀ l,ak P (some l) N L body)/\exec ts G L assign ⟨psT ps.toList (mk x)++T,H s⟩ (λe st1=>e=.normal/\exec ts G L body st1 (rgQ step exE T H Hy st.h.length id x s)))/\
   (∀ s,qc (arP s) st.h.length ⟨T,H s⟩)/\∀ y,qc (arw y) st.h.length ⟨T,Hy y⟩):my P none N id (.rangeFunc g ps assign body) C:=by
 refine OG hm hts hG hpn hpN hca hcb λst lc hC hp=>?_;obtain⟨f,caps,τ,ρ,σ,l,mk,step,p,pre,s0,exE,arw,arP,T,H,Hy,js,h1,rfl,h2,h3,h4,h5,h6,h7,h8⟩:=h st lc hC hp;refine⟨f,caps,l.map mk,σ⊕ρ,T,λz=>match z with| .inl s=>H s| .inr y=>Hy y,λk z=>match z with| .inl s=>cG step (l.drop k) s=cG step l s0/\okL step p (l.drop k) s| .inr _=>False,
  λe z=>match z with| .inl _=>False| .inr y=>cG step l s0=.inl y/\(match e with| .ret=>exE y=.ret| .exit j=>exE y=(bif Nat.beq j id then .normal else .exit j) |_=>False),.inl s0,js,h1,⟨rfl,h2⟩,h3,h4,h5,?_,?_,?_,?_⟩
 rintro k z args hk hI;cases z with
 |inr y=>exact hI.elim
 |inl s=>
  obtain⟨V,Y⟩:=hI;rw[apj,apz]at hk;obtain⟨x,hx,rfl⟩:=hk;have hlt:=(aop.1 hx).1;have hd:l.drop k=x::l.drop (k+1):=by
   grind [List.drop_eq_getElem_cons]
  rw[hd]at V Y;obtain⟨hl,L,hla,hlb,hex⟩:=h6 x s Y.1;refine⟨hl,L,_,hla,hlb,?_,hex⟩;intro e st' W;have fin:∀ e',rgX exE T Hy st.h.length e' st' (step x s)->∃ y js,exE y=e'/\cG step l s0=.inl y/\st.h.length<=(Hy y).length/\Sub js st.h.length ⟨T,st'.h⟩ ⟨T,Hy y⟩:=by
   intro e' q;cases X:step x s with
   |inr s'=>rw[X]at q;exact q.elim
   |inl y=>
    rw[X]at q;obtain⟨E,js,O,q3⟩:=q;grind [cG]
  cases e with
  |normal=>
   change rgN T H st.h.length st' (step x s)at W;cases X:step x s with
   |inl y=>rw[X]at W;exact W.elim
   |inr s'=>
    rw[X]at W;obtain⟨js,E,O⟩:=W;simp only[cG,X]at V;exact⟨.inl s',js,⟨V,Y.2 s' X⟩,E,O⟩
  |exit j=>
   obtain⟨y,js,E,O,q3,q4⟩:=fin _ W;exact⟨.inr y,js,⟨O,E⟩,q3,q4⟩
  |ret=>
   obtain⟨y,js,E,O,q3,q4⟩:=fin _ W;exact⟨.inr y,js,⟨O,E⟩,q3,q4⟩
  |pan x=>exact W.elim
 intro z hI;cases z with
 |inr y=>exact hI.elim
 |inl s=>
  obtain⟨js,E,O⟩:=h7 s;have:=hI.1;rw[apd,aqY]at this;exact⟨.inr s,js,this,rfl,E,O⟩
 intro z hS;cases z with
 |inl s=>exact hS.elim
 |inr y=>
  obtain⟨js,E,O⟩:=h8 y;exact⟨.inl y,js,hS.1.symm,hS.2,E,O⟩
 intro j z hS;cases z with
 |inl s=>exact hS.elim
 |inr y=>
  obtain⟨js,E,O⟩:=h8 y;refine⟨.inl y,js,hS.1.symm,?_,E,O⟩;have:=hS.2;show exE y=_;rw[this];by_cases hj:j=id
  rw[if_pos hj];have hb:Nat.beq j id=true:=by rw[hj];exact aru id
  rw[hb];rfl;rw[if_neg hj];cases hb:Nat.beq j id with
  |true=>exact absurd (aok hb) hj|false=>rfl
end
section
variable {P:Program}{ρ σ τ:Type}
def AT:Ob->Option Nat
 | .mi _ _ _ c=>c|_=>none
def nxC (step:τ->σ->ρ⊕σ)(l:List τ)(d:τ)(D:List Nat->Option Nat->σ->St)(n0:Nat)(left:List Nat)(s:σ)(st:St):Option Nat->Prop
 |some j=>j∈left/\BU (λ_ s'=>D (left.erase j) (some j) s') n0 0 st (step (l.getD j d) s)
 |none=>False
def exC (step:τ->σ->ρ⊕σ)(l:List τ)(d:τ)(exE:ρ->Ex)(arw:ρ->St)(n0:Nat)(left:List Nat)(s:σ)(e:Ex)(st:St):Option Nat->Prop
 |some j=>j∈left/\vP exE arw n0 e st (step (l.getD j d) s)|none=>False
def cM (step:τ->σ->ρ⊕σ)(l:List τ)(d:τ)(exE:ρ->Ex)(arw:ρ->St)(arP:σ->St)(D:List Nat->Option Nat->σ->St)(n0 id it:Nat)(left:List Nat)(s:σ):Ex->St->Prop
 | .normal,st=>nxC step l d D n0 left s st (AT (ap st.h it))| .exit j,st=>bif Nat.beq j id then(left=[]->qc (arP s) n0 st)/\(left≠[]->exC step l d exE arw n0 left s .normal st (AT (ap st.h it)))else exC step l d exE arw n0 left s (.exit j) st (AT (ap st.h it))| .ret,st=>exC step l d exE arw n0 left s .ret st (AT (ap st.h it))| .pan x,st=>exC step l d exE arw n0 left s (.pan x) st (AT (ap st.h it))
variable {step:τ->σ->ρ⊕σ}{l:List τ}{d:τ}{n0 id it j:Nat}{exE:ρ->Ex}{arw:ρ->St}{arP:σ->St}{D:List Nat->Option Nat->σ->St}{left:List Nat}{s s':σ}{st:St}{x:Value}{e:Ex}{y:ρ}{t:List (Nat×SV)}{h:List Ob}
@[go_sem] def amu:= @AT.eq_1
@[go_sem] def aj0:= @nxC.eq_1
@[go_sem] def aj1:= @exC.eq_1
def ah_:cM step l d exE arw arP D n0 id it left s .normal ⟨t,h⟩=nxC step l d D n0 left s ⟨t,h⟩ (AT (ap h it)):=(rfl)
def amv:cM step l d exE arw arP D n0 id it left s (.exit j) ⟨t,h⟩=bif Nat.beq j id then(left=[]->qc (arP s) n0 ⟨t,h⟩)/\(left≠[]->exC step l d exE arw n0 left s .normal ⟨t,h⟩ (AT (ap h it)))else exC step l d exE arw n0 left s (.exit j) ⟨t,h⟩ (AT (ap h it)):=(rfl)
def an2:cM step l d exE arw arP D n0 id it left s .ret ⟨t,h⟩=exC step l d exE arw n0 left s .ret ⟨t,h⟩ (AT (ap h it)):=(rfl)
def an3:cM step l d exE arw arP D n0 id it left s (.pan x) ⟨t,h⟩=exC step l d exE arw n0 left s (.pan x) ⟨t,h⟩ (AT (ap h it)):=(rfl)
attribute[go_sem]ah_ amv an2 an3
@[congr] theorem aj2 {st st':St}{e e':Ex}(h:st=st')(he:e=e'):cM step l d exE arw arP D n0 id it left s e st=cM step l d exE arw arP D n0 id it left s e' st':=by rw[h,he]
attribute [go_sem] Wx
def aj3 {t:List (Nat×SV)}{h:List Ob}{d:Nat}{s:SV}:St.put ⟨t,h⟩ (some d) s=⟨(d,s)::t,h⟩:=(rfl)
def aj4 {t:List (Nat×SV)}{h:List Ob}{s:SV}:St.put ⟨t,h⟩ none s=⟨t,h⟩:=(rfl)
attribute[go_sem]aj3 aj4
theorem GY (l:List τ)(d:τ):(List.range l.length).map (λj=>l.getD j d)=l:=by
 apply aqZ <;>grind
end
inductive as2 where
 |slot (i:Nat) (o:Ob)
 |cell (i j:Nat) (o:Ob)
def aft (j n:Nat):Ob->Ob
 | .cells l=>.cells (l.set j (.os n))|o=>o
def afu (j:Nat):Ob->Prop
 | .cells l=>nth l j=some (.v (.slice none 0 0))|_=>False
def OO:Ob->Prop
 | .row _ l=>l=[]| .ar2 _ l=>l=[]|_=>False
def X_:SV->Ob->Prop
 | .v (.slice none 0 0),_=>True| .e0,.row _ _=>True|_,_=>False
def mkN:List as2->St->St
 | [],st=>st| .slot i o::r,⟨t,h⟩ =>mkN r ⟨(i,.os h.length)::t,h++[o]⟩| .cell i j o::r,⟨t,h⟩ =>mkN r ⟨t,cW h i (aft j h.length (ap h i))++[o]⟩
def okN:List as2->St->Prop
 | [],_=>True| .slot i o::r,⟨t,h⟩ =>X_ (lk i t) o/\OO o/\okN r ⟨(i,.os h.length)::t,h++[o]⟩| .cell i j o::r,⟨t,h⟩ =>afu j (ap h i)/\OO o/\okN r ⟨t,cW h i (aft j h.length (ap h i))++[o]⟩
section
variable {i j m n:Nat}{o:Ob}{r:List as2}{t t2:List (Nat×SV)}{h h2:List Ob}{l:List SV}{ns:List as2}{js:List Nat}{st:St}
@[go_sem] def amw:= @mkN.eq_1
@[go_sem] def aj5:= @mkN.eq_2
@[go_sem] def aj6:= @mkN.eq_3
@[go_sem] def amx:= @okN.eq_1
@[go_sem] def aj7:= @okN.eq_2
@[go_sem] def aj8:= @okN.eq_3
@[go_sem] theorem aj9:X_ (.v (.slice none 0 0)) o=True:=by rfl
@[go_sem] def amy:= @X_.eq_2
@[go_sem] def afv:= @aft.eq_1
@[go_sem] def afw:= @afu.eq_1
theorem Tw (h:OO o):(∃ k,o=.row k [])\/∃ k,o=.ar2 k []:=by
 cases o <;>simp only[OO]at h <;>simp_all
theorem Ya {s:SV}{o:Ob}(h:X_ s o):s=.v (.slice none 0 0)\/(s=.e0/\∃ k l,o=.row k l):=by
 unfold X_ at h;grind
theorem yL:∀ (ns:List as2) (E st:St),asv E st->okN ns st->asv E (mkN ns st)
 | [],_,_,hn,_=>hn
 | .slot i o::r,E,⟨t,h⟩,hn,hk=>by
  rcases Ya hk.1 with e| ⟨e,k,l,O⟩;exact yL r E _ (.slot o hn e (Tw hk.2.1)) hk.2.2;have h2:=hk.2.1;have V:=hk.2.2;rw[O]at h2 V;simp only[OO]at h2;subst h2;subst O;exact yL r E _ (.atG k hn e) V
 | .cell i j o::r,E,⟨t,h⟩,hn,hk=>by
  refine yL r E _ ?_ hk.2.2;have h1:=hk.1;cases O:ap h i with
  |cells l=>
   rw[O]at h1;simp only[afu,iu]at h1;exact .cell o hn O h1 (Tw hk.2.1)
  |_=>rw[O]at h1;exact h1.elim
def uv (m:Nat)(b:List as2)(c:List Nat)(a d:St):Prop:=a.h.length=m/\okN b a/\m<=d.h.length/\Sub c m (mkN b a) d
@[go_sem]def aia:uv m ns js ⟨t,h⟩ ⟨t2,h2⟩=(h.length=m/\okN ns ⟨t,h⟩/\m<=h2.length/\Sub js m (mkN ns ⟨t,h⟩) ⟨t2,h2⟩):=(rfl)
end
def ag {P:Program}{ro:Option Nat}{N:Nat}(c:Code):ak P ro N L0 c:=by
 induction c with
 |seq a b O E=>exact⟨O,E⟩|cond _ a b O E=>exact⟨O,E⟩
 |block id c hc=>
  cases c with
  |loop c=>exact λ_ _ _ _ _ h=>by cases h
  |rangeFunc f V a b=>exact λ_ _ _ _ _ h=>by cases h
  |_=>exact hc
 |_=>trivial
section
variable {ρ σ τ:Type}
def pT:Nat->σ->Prop:=λ_ _=>True
@[go_sem]def an4 {a:Nat->σ->ρ⊕σ}{n i:Nat}{s:σ}:okI a pT n i s=True:=eq_true (iA _ _ _ λ_ _ _ _=>trivial)
def LCR (m:Nat)(ns:List as2)(js:List Nat)(D:Nat->σ->St)(step:Nat->σ->ρ⊕σ)(p:Nat->σ->Prop)(n:Nat)(s0:σ)(B:Prop)(exE:ρ->Ex)(arw:ρ->St)(st:St):asq:=
 LC (uv m ns js st (D 0 s0)/\B/\okI step p n 0 s0) (aj step n 0 s0) exE arw (D n)
def LCV (m:Nat)(ns:List as2)(js:List Nat)(D:Nat->σ->St)(step:Nat->σ->ρ⊕σ)(p:Nat->σ->Prop)(n:Nat)(s0:σ)(exE:ρ->Ex)(arw:ρ->St)(st:St):asq:=
 LC (uv m ns js st (D 0 s0)/\okI step p n 0 s0/\∀ s,aj step n 0 s0≠ .inr s) (aj step n 0 s0) exE arw (D n)
variable {m:Nat}{ns:List as2}{js:List Nat}{step:Nat->σ->ρ⊕σ}{p:Nat->σ->Prop}{n:Nat}{s0:σ}{B:Prop}{exE:ρ->Ex}{arw:ρ->St}{arP:σ->St}{st:St}{Q:Ex->St->Prop}
variable {D:Nat->σ->St}
@[go_sem]def aib:tw Q (some (LCR m ns js D step p n s0 B exE arw st))=((uv m ns js st (D 0 s0)/\B/\okI step p n 0 s0)/\(∀ x,aj step n 0 s0=.inl x->Q (exE x) (arw x))/\∀ s,aj step n 0 s0=.inr s->Q .normal (D n s)):=OC
@[go_sem] theorem aic:tw Q (some (LCV m ns js D step p n s0 exE arw st))=((uv m ns js st (D 0 s0)/\okI step p n 0 s0/\∀ s,aj step n 0 s0≠ .inr s)/\∀ x,aj step n 0 s0=.inl x->Q (exE x) (arw x)):=by
 refine OC.trans ?_;grind
def cR (step:Nat->σ->ρ⊕σ)(exE:ρ->Ex)(arw:ρ->St)(D:Nat->σ->St)(m id k:Nat)(s:σ):Ex->St->Prop
 | .normal,st=>BU D m k st (step k s)| .exit j,st=>vP exE arw m (bif Nat.beq j id then .normal else .exit j) st (step k s)| .ret,st=>vP exE arw m .ret st (step k s)| .pan x,st=>vP exE arw m (.pan x) st (step k s)
def cZ (d:St)(m id:Nat):Ex->St->Prop
 | .exit j,st=>bif Nat.beq j id then qc d m st else False|_,_=>False
variable {D:Nat->σ->St}{id k j:Nat}{s:σ}{x:Value}{d:St}{e e':Ex}
@[go_sem] def aid:= @cR.eq_1
@[go_sem] def amz:= @cR.eq_2
@[go_sem] def an5:= @cR.eq_3
@[go_sem] def an6:= @cR.eq_4
@[go_sem] def amA:= @cZ.eq_1
@[congr] theorem aj_ {st':St}(h:st=st')(he:e=e'):cR step exE arw D m id k s e st=cR step exE arw D m id k s e' st':=by rw[h,he]
@[congr] theorem aka {st':St}(h:st=st')(he:e=e'):cZ d m id e st=cZ d m id e' st':=by rw[h,he]
@[congr] theorem ade {r r':ρ⊕σ}(h:r=r')(he:e=e'):vP exE arw m e st r=vP exE arw m e' st r':=by rw[h,he]
end
section
variable {P:Program}{ρ σ τ:Type}{ts:Tis}{G:Cons}{ro:Option Nat}{N:Nat}{id:Nat}{c:Code}{C:St->Option asq}{m:Nat}{ns:List as2}{js:List Nat}{step:Nat->σ->ρ⊕σ}{p:Nat->σ->Prop}{n:Nat}{s0:σ}{exE:ρ->Ex}{arw:ρ->St}{D:Nat->σ->St}
theorem Yb {n0:Nat}(hn0:n0=m){s:σ}{k:Nat}(hlt:k<n){I:Nat×σ->Prop}{μ:Nat×σ->Nat}{arP:σ->St}{pre:Prop}{E:ρ⊕σ}
  (hI:∀ s',step k s=.inr s'->I (k+1,s')/\μ (k+1,s') <μ (k,s)) (hx:∀ x,step k s=.inl x->E=.inl x):
  ∀ e st',cR step exE arw D m id k s e st'->wX (λx:Nat×σ=>D x.1 x.2) I μ n0 (k,s) id (λe st'=>∃ r js,(LC pre E exE arw arP).post r/\(LC pre E exE arw arP).ex r=e/\n0<=((LC pre E exE arw arP).out r).h.length/\Sub js n0 st' ((LC pre E exE arw arP).out r)) e st':=by
 subst hn0;have V:∀ e st',vP exE arw n0 e st' (step k s)->∃ r js,(LC pre E exE arw arP).post r/\(LC pre E exE arw arP).ex r=e/\n0<=((LC pre E exE arw arP).out r).h.length/\Sub js n0 st' ((LC pre E exE arw arP).out r):=by
  intro e st' q;cases W:step k s with
  |inr s'=>rw[W]at q;exact q.elim
  |inl x=>
   rw[W]at q;obtain⟨q2,js,X,Y⟩:=q;exact⟨.inl x,js,(hx x W).symm,q2,X,Y⟩
 intro e st' O;cases e with
 |normal=>
  change BU D n0 k st' (step k s)at O;cases W:step k s with
  |inl x=>rw[W]at O;exact O.elim
  |inr s'=>
   rw[W]at O;obtain⟨js,X,Y⟩:=O;obtain⟨i1,i2⟩:=hI s' W;exact⟨(k+1,s'),js,i1,i2,X,Y⟩
 |exit j=>
  change vP exE arw n0 (bif Nat.beq j id then .normal else .exit j) st' (step k s)at O;show bif Nat.beq j id then _ else _;grind
 |ret=>exact V _ _ O|pan x=>exact V _ _ O
theorem Dd {B:Prop}(hm:P.follows .mixedOrders=true)(hts:ts.ok P)(hG:arD P G)(hc:dq N c=true)(hC:∀ st,C st=some (LCR m ns js D step p n s0 B exE arw st))
  (h:B->∀ k s,k<n->p k s->∃ L Q,ak P ro N L c/\(∀ e st',Q e st'->cR step exE arw D m id k s e st')/\exec ts G L c (D k s) Q)
  (h2:B->∀ s,∃ Q,(∀ e st',Q e st'->cZ (D n s) m id e st')/\exec ts G L0 c (D n s) Q):my P ro N id (.loop c) C:=by
 refine wq hm hts hG hc λst lc W hp=>?_;rw[hC st]at W;cases W;obtain⟨⟨O,hok,hle,hsub⟩,hB,h1⟩:=hp;refine⟨Nat×σ,λx=>D x.1 x.2,λx=>x.1<=n/\okI step p (n - x.1) x.1 x.2/\aj step (n - x.1) x.1 x.2=aj step n 0 s0,λx=>n - x.1,(0,s0),mkN ns st,js,⟨aoV _,g5,by simp⟩,yL ns st st (.refl _) hok,g6,g6,?_⟩;rintro⟨k,s⟩ ⟨hk,hJ,E⟩;simp only at hk hJ E;rcases apv k n with hlt|hge;rw[show n - k=(n - k - 1)+1 by omega]at E hJ;obtain⟨L,Q,hl,hQ,V⟩:=h hB k s hlt hJ.1;have hI:∀ s',step k s=.inr s'->okI step p (n - (k+1)) (k+1) s'/\aj step (n - (k+1)) (k+1) s'=aj step n 0 s0:=λs' Y=>by
  have:=hJ.2 s' Y;grind [aj]
 have hx:∀ x,step k s=.inl x->aj step n 0 s0=.inl x:=λx Y=>by
  grind [aj]
 exact⟨L,Q,hl,λe st' q=>Yb O hlt (λs' Y=>⟨⟨hlt,hI s' Y⟩,g5⟩) hx e st' (hQ e st' q),V⟩;have hkn:k=n:=g5
 subst hkn;obtain⟨Q,hQ,V⟩:=h2 hB s;refine⟨L0,Q,ag c,λe st' q=>?_,V⟩;have X:=hQ e st' q;simp only[aqg,aj]at E;cases e with
 |exit j=>
  change bif Nat.beq j id then qc (D k s) m st' else False at X;show bif Nat.beq j id then _ else _;cases hb:Nat.beq j id with
  |true=>
   rw[hb]at X;obtain⟨js,q3,q4⟩:=X;exact⟨.inr s,js,E,rfl,by rw[O];exact q3,by rw[O];exact q4⟩
  |false=>grind
 |_=>exact X.elim
theorem bu {B:Prop}(W:P.follows .mixedOrders=true)(E:ts.ok P)(hG:arD P G)(hc:dq N c=true)(X:∀ st,C st=some (LCR m ns js D step p n s0 B exE arw st))(M:Int)(hn:n=M.toNat)(O:B->M<9223372036854775808)
  (h:B->∀ k s,k<n->p k s->i64.wrap ((k:Int)+1)=((k+1:Nat):Int)->decide ((k:Int) <M)=true->∃ L,ak P ro N L c/\exec ts G L c (D k s) (cR step exE arw D m id k s))
  (h2:B->∀ s,decide ((n:Int) <M)=false->exec ts G L0 c (D n s) (cZ (D n s) m id)):my P ro N id (.loop c) C:=by
 refine Dd W E hG hc X (λb k s hlt V=>?_) λb s=>⟨_,λ_ _ q=>q,h2 b s ?_⟩;obtain⟨L,h1,Y⟩:=h b k s hlt V (OH (hn▸hlt) (O b)) (decide_eq_true g5);grind
 grind
theorem fj (E:Prop)(X:P.follows .mixedOrders=true)(V:ts.ok P)(hG:arD P G)(hc:dq N c=true)(Y:∀ st,C st=some (LCR m ns js D step p n s0 True exE arw st))(M:Int)(hn:n=M.toNat)(hE:E->M<9223372036854775808)
  (h:E->∀ k s,k<n->p k s->i64.wrap ((k:Int)+1)=((k+1:Nat):Int)->decide ((k:Int) <M)=true->∃ L,ak P ro N L c/\exec ts G L c (D k s) (cR step exE arw D m id k s))
  (h2:E->∀ s,decide ((n:Int) <M)=false->exec ts G L0 c (D n s) (cZ (D n s) m id)) (W:¬E->∀ k s,exec ts G L0 c (D k s) λ_ _=>False):my P ro N id (.loop c) C:=by
 by_cases O:E
 refine Dd X V hG hc Y (λb k s hlt hp=>?_) λb s=>⟨_,λ_ _ q=>q,h2 O s ?_⟩;obtain⟨L,h1,h4⟩:=h O k s hlt hp (OH (hn▸hlt) (hE O)) (decide_eq_true g5);grind
 grind
 exact Dd X V hG hc Y (λ_ k s _ _=>⟨L0,_,ag c,λ_ _ q=>q.elim,W O k s⟩) λ_ s=>⟨_,λ_ _ q=>q.elim,W O n s⟩
theorem fw (hm:P.follows .mixedOrders=true)(hts:ts.ok P)(hG:arD P G)(hc:dq N c=true)(hC:∀ st,C st=some (LCV m ns js D step p n s0 exE arw st))
  (h:∀ k s,p k s->∃ L,ak P ro N L c/\exec ts G L c (D k s) (cR step exE arw D m id k s)):my P ro N id (.loop c) C:=by
 refine wq hm hts hG hc λst lc V hp=>?_;rw[hC st]at V;cases V;obtain⟨⟨O,Y,hle,hsub⟩,h1,hno⟩:=hp;refine⟨Nat×σ,λx=>D x.1 x.2,λx=>x.1<=n/\okI step p (n - x.1) x.1 x.2/\aj step (n - x.1) x.1 x.2=aj step n 0 s0,λx=>n - x.1,(0,s0),mkN ns st,js,⟨aoV _,g5,by simp⟩,yL ns st st (.refl _) Y,g6,g6,?_⟩;rintro⟨k,s⟩ ⟨hk,X,E⟩;simp only at hk X E;have hlt:k<n:=by
  rcases apv k n with h|h;exact h;have hkn:k=n:=g5
  subst hkn;simp only[aqg,aj]at E;grind
 rw[show n - k=(n - k - 1)+1 by omega]at E X;obtain⟨L,hl,hex⟩:=h k s X.1;have hI:∀ s',step k s=.inr s'->okI step p (n - (k+1)) (k+1) s'/\aj step (n - (k+1)) (k+1) s'=aj step n 0 s0:=λs' W=>by
  have:=X.2 s' W;grind [aj]
 have hx:∀ x,step k s=.inl x->aj step n 0 s0=.inl x:=λx W=>by
  grind [aj]
 exact⟨L,_,hl,λe st' q=>Yb O hlt (λs' W=>⟨⟨hlt,hI s' W⟩,g5⟩) hx e st' q,hex⟩
theorem fO {α:Type}{l:List α}(h:l.length<=aI):(l.length:Int) <9223372036854775808:=by grind [aI]
end
section
universe u
variable {α:Type u}{G:List SV->α->Prop}{r:List SV}
theorem aG {k:Int->List SV->Option α}(h:∀ n l c,k n l=some c->G (.i n::l) c):∀ l c,pI k l=some c->G l c:=λl c hc=>by
 obtain⟨n,r,rfl,h1⟩:=RD hc;grind
theorem De {k:Bool->List SV->Option α}(h:∀ n l c,k n l=some c->G (.v (.bool n)::l) c):∀ l c,pB k l=some c->G l c:=λl c hc=>by
 obtain⟨n,r,rfl,h1⟩:=aeW hc;grind
variable {t:Tag}
theorem bG{k:List t.T->List SV->Option α}(h:∀ n l c,k n l=some c->G (.rs t n::l) c):∀ l c,pR t k l=some c->G l c:=λl c hc=>by
 obtain⟨n,r,rfl,h1⟩:=Xk hc;grind
variable {k:t.T->List SV->Option α}
theorem ax(h:∀ n l c,k n l=some c->G (.agg (cellsOf t n)::l) c):∀ l c,pD t k l=some c->G l c:=λl c hc=>by
 obtain⟨n,r,rfl,h1⟩:=ut hc;grind
theorem ii(h:∀ n l c,k n l=some c->G (.ep (cellsOf t n) 0::l) c):∀ l c,pX t k l=some c->G l c:=λl c hc=>by
 obtain⟨n,r,rfl,h1⟩:=GS hc;grind
theorem afx{t2:Tag}{k:List (t.T×t2.T)->List SV->Option α}(h:∀ n l c,k n l=some c->G (.rm t t2 n::l) c):∀ l c,pM t t2 k l=some c->G l c:=λl c hc=>by
 obtain⟨n,r,rfl,h1⟩:=Xl hc;grind
theorem am {c0:α}(h:G [] c0):∀ l c,pE c0 l=some c->G l c:=λl c hc=>by
 obtain⟨rfl,rfl⟩:=nc hc;exact h
end
end Go.Sx
end
section
namespace Go.Sx
variable {f:FuncId}{a:List SV}
def sq{p:Pk}{b:List SV}:yJ [p] (.fn f a b)=AF p (.fn f a b):=(rfl)
def sr{b:List SV}:AF .o (.fn f a b)=.fn f a b:=(rfl)
end Go.Sx
end
section
namespace Go.Sx
open Go.RowKit
open IntKind (i64)
abbrev RF:= { r:Nat->Res // ∀ k,(r k).n=k}
def ER (a:List (List SV))(r:RF):List SV->Res->Option as9:=itY a r.1
@[go_sem]def amB {b:List (List SV)}{r:RF}{k:Nat}{a:List SV}:ER b r a (r.1 (k+1))=some (OE (b[k]? =some a) r.1 (k+2)):=Da r.2 k a
section
variable {ρ σ:Type}
def lcy (pre:Prop)(run:ρ⊕σ)(exE:ρ->Ex)(arw:ρ->St)(arP:σ->St)(stp:St):asq where
 α:=Option (ρ⊕σ)
 pre:=pre
 post:=λ|none=>True|some r=>r=run
 ex:=λ|none=>.ret|some (.inl x) =>exE x|some (.inr _) =>.normal
 out:=λ|none=>stp|some (.inl x) =>arw x|some (.inr s) =>arP s
def LCY (m:Nat)(ns:List as2)(js:List Nat)(D:Nat->σ->St)(step:Nat->σ->ρ⊕σ)(p:Nat->σ->Prop)(n:Nat)(s0:σ)(B:Prop)(exE:ρ->Ex)(arw:ρ->St)(stp st:St):asq:=
 lcy (uv m ns js st (D 0 s0)/\B/\okI step p n 0 s0) (aj step n 0 s0) exE arw (D n) stp
def abj (m:Nat)(ns:List as2)(js:List Nat)(D:Nat->σ->St)(step:Nat->σ->ρ⊕σ)(p:Nat->σ->Prop)(n:Nat)(s0:σ)(exE:ρ->Ex)(arw:ρ->St)(stp st:St):asq:=
 lcy (uv m ns js st (D 0 s0)/\okI step p n 0 s0/\∀ s,aj step n 0 s0≠ .inr s) (aj step n 0 s0) exE arw (D n) stp
variable {m:Nat}{ns:List as2}{js:List Nat}{step:Nat->σ->ρ⊕σ}{p:Nat->σ->Prop}{n:Nat}{s0:σ}{B:Prop}{exE:ρ->Ex}{arw:ρ->St}{stp st:St}{Q:Ex->St->Prop}{D:Nat->σ->St}
theorem Kz {pre:Prop}{E:ρ⊕σ}{arP:σ->St}:tw Q (some (lcy pre E exE arw arP stp))=(pre/\(∀ x,E=.inl x->Q (exE x) (arw x))/\(∀ s,E=.inr s->Q .normal (arP s))/\Q .ret stp):=by
 apply propext;constructor
 rintro⟨h1,h2⟩;exact⟨h1,λx V=>h2 (some (.inl x)) V.symm,λs O=>h2 (some (.inr s)) O.symm,h2 none trivial⟩;rintro⟨h1,h2,X,W⟩;refine⟨h1,λr hr=>?_⟩;match r,hr with
 |none,_=>exact W|some (.inl x),hr=>exact h2 x hr.symm|some (.inr s),hr=>exact X s hr.symm
@[go_sem]def aie:tw Q (some (LCY m ns js D step p n s0 B exE arw stp st))=((uv m ns js st (D 0 s0)/\B/\okI step p n 0 s0)/\(∀ x,aj step n 0 s0=.inl x->Q (exE x) (arw x))/\(∀ s,aj step n 0 s0=.inr s->Q .normal (D n s))/\Q .ret stp):=Kz
@[go_sem] theorem afy:tw Q (some (abj m ns js D step p n s0 exE arw stp st))=((uv m ns js st (D 0 s0)/\okI step p n 0 s0/\∀ s,aj step n 0 s0≠ .inr s)/\(∀ x,aj step n 0 s0=.inl x->Q (exE x) (arw x))/\Q .ret stp):=by
 refine Kz.trans ?_;grind
def cY (step:Nat->σ->ρ⊕σ)(exE:ρ->Ex)(arw:ρ->St)(D:Nat->σ->St)(stp:St)(m id k:Nat)(s:σ):Ex->St->Prop
 | .normal,st=>BU D m k st (step k s)| .exit j,st=>vP exE arw m (bif Nat.beq j id then .normal else .exit j) st (step k s)| .ret,st=>vP exE arw m .ret st (step k s)\/qc stp m st| .pan x,st=>vP exE arw m (.pan x) st (step k s)
variable {id k j:Nat}{s:σ}{x:Value}{e e':Ex}
@[go_sem] def aif:= @cY.eq_1
@[go_sem] def amC:= @cY.eq_2
@[go_sem] def an7:= @cY.eq_3
@[go_sem] def an8:= @cY.eq_4
@[congr] theorem akb {st':St}(h:st=st')(he:e=e'):cY step exE arw D stp m id k s e st=cY step exE arw D stp m id k s e' st':=by rw[h,he]
end
section
variable {P:Program}{ρ σ:Type}{ts:Tis}{G:Cons}{ro:Option Nat}{N:Nat}{id:Nat}{c:Code}{C:St->Option asq}{m:Nat}{ns:List as2}{js:List Nat}{step:Nat->σ->ρ⊕σ}{p:Nat->σ->Prop}{n:Nat}{s0:σ}{exE:ρ->Ex}{arw:ρ->St}{D:Nat->σ->St}{stp:St}
theorem Yc {n0:Nat}(Y:n0=m){s:σ}{k:Nat}(hlt:k<n){I:Nat×σ->Prop}{μ:Nat×σ->Nat}{arP:σ->St}{pre:Prop}{E:ρ⊕σ}
  (hI:∀ s',step k s=.inr s'->I (k+1,s')/\μ (k+1,s') <μ (k,s)) (hx:∀ x,step k s=.inl x->E=.inl x):
  ∀ e st',cY step exE arw D stp m id k s e st'->wX (λx:Nat×σ=>D x.1 x.2) I μ n0 (k,s) id (λe st'=>∃ r js,(lcy pre E exE arw arP stp).post r/\(lcy pre E exE arw arP stp).ex r=e/\n0<=((lcy pre E exE arw arP stp).out r).h.length/\Sub js n0 st' ((lcy pre E exE arw arP stp).out r)) e st':=by
 subst Y;have O:∀ e st',vP exE arw n0 e st' (step k s)->∃ r js,(lcy pre E exE arw arP stp).post r/\(lcy pre E exE arw arP stp).ex r=e/\n0<=((lcy pre E exE arw arP stp).out r).h.length/\Sub js n0 st' ((lcy pre E exE arw arP stp).out r):=by
  intro e st' q;cases V:step k s with
  |inr s'=>rw[V]at q;exact q.elim
  |inl x=>
   rw[V]at q;obtain⟨q2,js,W,X⟩:=q;exact⟨some (.inl x),js,(hx x V).symm,q2,W,X⟩
 intro e st' hq;cases e with
 |normal=>
  change BU D n0 k st' (step k s)at hq;cases V:step k s with
  |inl x=>rw[V]at hq;exact hq.elim
  |inr s'=>
   rw[V]at hq;obtain⟨js,W,X⟩:=hq;obtain⟨i1,i2⟩:=hI s' V;exact⟨(k+1,s'),js,i1,i2,W,X⟩
 |exit j=>
  change vP exE arw n0 (bif Nat.beq j id then .normal else .exit j) st' (step k s)at hq;show bif Nat.beq j id then _ else _;grind
 |ret=>
  rcases hq with hq|hq;exact O _ _ hq;obtain⟨js,W,X⟩:=hq;exact⟨none,js,trivial,rfl,W,X⟩
 |pan x=>exact O _ _ hq
theorem uw {B:Prop}(hm:P.follows .mixedOrders=true)(hts:ts.ok P)(hG:arD P G)(hc:dq N c=true)(hC:∀ st,C st=some (LCY m ns js D step p n s0 B exE arw stp st))(M:Int)(hn:n=M.toNat)(hB:B->M<9223372036854775808)
  (h:B->∀ k s,k<n->p k s->i64.wrap ((k:Int)+1)=((k+1:Nat):Int)->decide ((k:Int) <M)=true->∃ L,ak P ro N L c/\exec ts G L c (D k s) (cY step exE arw D stp m id k s))
  (h2:B->∀ s,decide ((n:Int) <M)=false->exec ts G L0 c (D n s) (cZ (D n s) m id)):my P ro N id (.loop c) C:=by
 refine wq hm hts hG hc λst lc X hp=>?_;rw[hC st]at X;cases X;obtain⟨⟨O,hok,hle,hsub⟩,V,h1⟩:=hp;refine⟨Nat×σ,λx=>D x.1 x.2,λx=>x.1<=n/\okI step p (n - x.1) x.1 x.2/\aj step (n - x.1) x.1 x.2=aj step n 0 s0,λx=>n - x.1,(0,s0),mkN ns st,js,⟨aoV _,g5,by simp⟩,yL ns st st (.refl _) hok,g6,g6,?_⟩;rintro⟨k,s⟩ ⟨hk,hJ,E⟩;simp only at hk hJ E;rcases apv k n with hlt|hge;rw[show n - k=(n - k - 1)+1 by omega]at E hJ;obtain⟨L,hl,W⟩:=h V k s hlt hJ.1 (OH (hn▸hlt) (hB V)) (decide_eq_true g5);have hI:∀ s',step k s=.inr s'->okI step p (n - (k+1)) (k+1) s'/\aj step (n - (k+1)) (k+1) s'=aj step n 0 s0:=λs' hs=>by
  have:=hJ.2 s' hs;grind [aj]
 have hx:∀ x,step k s=.inl x->aj step n 0 s0=.inl x:=λx hs=>by
  grind [aj]
 exact⟨L,_,hl,λe st' q=>Yc O hlt (λs' hs=>⟨⟨hlt,hI s' hs⟩,g5⟩) hx e st' q,W⟩;have hkn:k=n:=g5
 subst hkn;have W:=h2 V s g6;refine⟨L0,_,ag c,λe st' Y=>?_,W⟩;simp only[aqg,aj]at E;cases e with
 |exit j=>
  change bif Nat.beq j id then qc (D k s) m st' else False at Y;show bif Nat.beq j id then _ else _;cases hb:Nat.beq j id with
  |true=>
   rw[hb]at Y;obtain⟨js,q3,q4⟩:=Y;exact⟨some (.inr s),js,E,rfl,by rw[O];exact q3,by rw[O];exact q4⟩
  |false=>grind
 |_=>exact Y.elim
theorem KA (hm:P.follows .mixedOrders=true)(hts:ts.ok P)(hG:arD P G)(hc:dq N c=true)(hC:∀ st,C st=some (abj m ns js D step p n s0 exE arw stp st))
  (h:∀ k s,p k s->∃ L,ak P ro N L c/\exec ts G L c (D k s) (cY step exE arw D stp m id k s)):my P ro N id (.loop c) C:=by
 refine wq hm hts hG hc λst lc V hp=>?_;rw[hC st]at V;cases V;obtain⟨⟨O,Y,hle,hsub⟩,h1,hno⟩:=hp;refine⟨Nat×σ,λx=>D x.1 x.2,λx=>x.1<=n/\okI step p (n - x.1) x.1 x.2/\aj step (n - x.1) x.1 x.2=aj step n 0 s0,λx=>n - x.1,(0,s0),mkN ns st,js,⟨aoV _,g5,by simp⟩,yL ns st st (.refl _) Y,g6,g6,?_⟩;rintro⟨k,s⟩ ⟨hk,X,E⟩;simp only at hk X E;rcases apv k n with hlt|hge;rw[show n - k=(n - k - 1)+1 by omega]at E X;obtain⟨L,hl,hex⟩:=h k s X.1;have hI:∀ s',step k s=.inr s'->okI step p (n - (k+1)) (k+1) s'/\aj step (n - (k+1)) (k+1) s'=aj step n 0 s0:=λs' W=>by
  have:=X.2 s' W;grind [aj]
 have hx:∀ x,step k s=.inl x->aj step n 0 s0=.inl x:=λx W=>by
  grind [aj]
 exact⟨L,_,hl,λe st' q=>Yc O hlt (λs' W=>⟨⟨hlt,hI s' W⟩,g5⟩) hx e st' q,hex⟩;have hkn:k=n:=g5
 subst hkn;simp only[aqg,aj]at E;grind
end
def wr (n:Nat):List Ob:=List.replicate n .dead
def OP (items:List (List SV))(r:RF)(n:Nat):Ex->St->Prop
 | .normal,st=>qc ⟨[],.ab (r.1 0)::wr n⟩ (n+1) ⟨[],st.h⟩\/qc ⟨[],.ab (r.1 (items.length+1))::wr n⟩ (n+1) ⟨[],st.h⟩| .ret,st=>qc ⟨[],.ab (r.1 0)::wr n⟩ (n+1) ⟨[],st.h⟩\/qc ⟨[],.ab (r.1 (items.length+1))::wr n⟩ (n+1) ⟨[],st.h⟩|_,_=>False
section
variable {items:List (List SV)}{r:RF}{n:Nat}{st:St}{e e':Ex}
@[go_sem] def abk:= @OP.eq_1
@[go_sem] def aig:= @OP.eq_2
@[congr]def adf {st':St}(h:st=st')(he:e=e'):OP items r n e st=OP items r n e' st':=by rw[h,he]
def amD:wr 0=[]:=(rfl)
def amE:wr 1=[.dead]:=(rfl)
def amF:wr 2=[.dead,.dead]:=(rfl)
def amG:wr 3=[.dead,.dead,.dead]:=(rfl)
def amH:wr 4=[.dead,.dead,.dead,.dead]:=(rfl)
attribute[go_sem]amD amE amF amG amH
end
def OQ {js:List Nat}{n0:Nat}{h h':List Ob}(q:Sub js n0 ⟨[],h⟩ ⟨[],h'⟩):Sub js n0 ⟨[(0,.tup [])],h⟩ ⟨[(0,.tup [])],h'⟩:=by
 refine⟨q.1,?_,q.2.2⟩;simp only[Uu,lk];exact⟨⟨rfl,rfl⟩,trivial⟩
open Classical in
def Df {P:Program}{ts:Tis}{G:RF->Cons}(hm:P.follows .mixedOrders=true)(hts:ts.ok P){f:FuncId}{fn:Func}{c:Code}(hf:P.funcs[f]? =some fn)(hb:fn.body=some c)(O:(fn.name== "runtime.NumGoroutine")=false)(hc:dq fn.ntmps c=true)(hr:fn.results.toList=[])
  {items:List (List SV)} {W:SV->List SV} {V:List Ob} {n:Nat} (hn:V.length=n)
  (h:∀ r:RF,YOk P (ER items r)->arD P (G r)/\(W (.os 0)).length<=fn.ntmps/\∃ L,ak P none fn.ntmps L c/\exec ts (G r) L c ⟨pn 0 (W (.os 0)),.ab (r.1 1)::V⟩ (OP items r n))
  (he:∀ (args:Array Value) (w:World),(callFunc f args).run P w=.ok (.enter f args) w):AQ P f W V items:=by
 refine OD (λE hr0 hy=>?_) he;obtain⟨hG,h1,L,h2,h3⟩:=h ⟨E,hr0⟩ hy;refine⟨λl o=>if l=W (.os 0)/\o=.ab (E 1)::V then some { α:=Bool,pre:=True,post:=λ_=>True,res:=λb=>.ret (.tup []) (.ab (E (if b then items.length+1 else 0))::wr n)}else none,?_,_,if_pos ⟨rfl,rfl⟩,trivial,λb _=>⟨_,_,_,rfl,g6⟩⟩;refine GR hm hts hG hf hb O hc λl o con hC _=>?_;split at hC
 rotate_left
 cases hC;rename_i Y;obtain⟨rfl,rfl⟩:=Y;cases hC;refine⟨h1,L,_,h2,λe st X=>?_,h3⟩;have key:∀ st:St,(qc ⟨[],.ab (E 0)::wr n⟩ (n+1) ⟨[],st.h⟩\/qc ⟨[],.ab (E (items.length+1))::wr n⟩ (n+1) ⟨[],st.h⟩)->Gg (Ob.ab (E 1)::V).length { α:=Bool,pre:=True,post:=λ_=>True,res:=λb=>.ret (.tup []) (.ab (E (if b then items.length+1 else 0))::wr n)} (u6 (sS ts st fn.results.toList)) st.h:=λst q=>by
  rw[hr];show ∃ r s' h' js,_;rcases q with⟨js,q1,q2⟩ | ⟨js,q1,q2⟩;exact⟨false,_,_,js,trivial,rfl,g6,by rw[aon,hn];exact OQ q2⟩;exact⟨true,_,_,js,trivial,rfl,g6,by rw[aon,hn];exact OQ q2⟩
 cases e with
 |normal=>exact key st X|ret=>exact key st X|exit j=>exact X.elim|pan x=>exact X.elim
section
variable {ρ σ τ:Type}
def Dg {step:τ->σ->ρ⊕σ}:∀ {a b:List τ} {s s':σ},cG step a s=.inr s'->cG step (a++b) s=cG step b s'
 | [],_,_,_,h=>by grind [cG]
 |x::a,b,s,s',h=>by
  simp only[aoJ,cG]at h |-;cases E:step x s with
  |inl y=>grind|inr s1=>rw[E]at h;simp only at h |-;exact Dg h
def OS {step:τ->σ->ρ⊕σ}{p:τ->σ->Prop}:∀ {a b:List τ} {s s':σ},cG step a s=.inr s'->okL step p (a++b) s->okL step p b s'
 | [],_,_,_,h,E=>by grind [cG]
 |x::a,b,s,s',h,E=>by
  simp only[aoJ,cG]at h E;cases O:step x s with
  |inl y=>grind|inr s1=>rw[O]at h;exact OS h (E.2 s1 O)
def LCP (m:Nat)(ns:List as2)(js:List Nat)(D:List Nat->Option Nat->σ->St)(step:τ->σ->ρ⊕σ)(p:τ->σ->Prop)(l:List τ)(s0:σ)(exE:ρ->Ex)(arw:ρ->St)(arP:σ->St)(st:St):asq where
 α:=ρ⊕σ
 pre:=uv m ns js st (D (List.range l.length) none s0)/\∀ L,L.Perm l->okL step p L s0
 post:=λr=>∃ L,L.Perm l/\cG step L s0=r
 ex:=λ| .inl x=>exE x| .inr _=>.normal
 out:=λ| .inl x=>arw x| .inr s=>arP s
variable {m:Nat}{ns:List as2}{js:List Nat}{step:τ->σ->ρ⊕σ}{p:τ->σ->Prop}{l:List τ}{s0:σ}{exE:ρ->Ex}{arw:ρ->St}{arP:σ->St}{st:St}{Q:Ex->St->Prop}{D:List Nat->Option Nat->σ->St}
@[go_sem] theorem aih:tw Q (some (LCP m ns js D step p l s0 exE arw arP st))=((uv m ns js st (D (List.range l.length) none s0)/\∀ L,L.Perm l->okL step p L s0)/\∀ L,L.Perm l->(∀ x,cG step L s0=.inl x->Q (exE x) (arw x))/\∀ s,cG step L s0=.inr s->Q .normal (arP s)):=by
 apply propext;constructor
 rintro⟨h1,h2⟩;exact⟨h1,λL hL=>⟨λx hx=>h2 (.inl x) ⟨L,hL,hx⟩,λs hs=>h2 (.inr s) ⟨L,hL,hs⟩⟩⟩;rintro⟨h1,h2⟩;refine⟨h1,λr ⟨L,hL,hr⟩ =>?_⟩;cases r with
 |inl x=>exact(h2 L hL).1 x hr|inr s=>exact(h2 L hL).2 s hr
variable {P:Program}{ts:Tis}{G:Cons}{ro:Option Nat}{N id:Nat}{c:Code}{C:St->Option asq}
theorem OT (d:τ)(it:Nat)(hm:P.follows .mixedOrders=true)(hts:ts.ok P)(hG:arD P G)(hc:dq N c=true)(hC:∀ st,C st=some (LCP m ns js D step p l s0 exE arw arP st))
  (h:∀ left cur s,(∀ j,j∈left->j<l.length/\p (l.getD j d) s)->∃ L,ak P ro N L c/\exec ts G L c (D left cur s) (cM step l d exE arw arP D m id it left s)):my P ro N id (.loop c) C:=by
 refine wq hm hts hG hc λst lc hC' hp=>?_;rw[hC st]at hC';cases hC';obtain⟨⟨hlen,hok,hle,hsub⟩,hO⟩:=hp;subst hlen;have Y:∀ q:List Nat,q.Perm (List.range l.length)->(q.map λj=>l.getD j d).Perm l:=λq hq=>by
  have:=hq.map (λj=>l.getD j d)
  rwa[GY]at this
 refine⟨List Nat×Option Nat×σ,λx=>D x.1 x.2.1 x.2.2,λx=>∃ q:List Nat,(q++x.1).Perm (List.range l.length)/\cG step (q.map λj=>l.getD j d) s0=.inr x.2.2,λx=>x.1.length,(List.range l.length,none,s0),mkN ns st,js,⟨[],.refl _,rfl⟩,yL ns st st (.refl _) hok,hle,hsub,?_⟩;rintro⟨left,cur,s⟩ ⟨q,hq,W⟩;simp only at hq W;have hmem:∀ j,j∈left->(q++j::left.erase j).Perm (List.range l.length):=λj hj=>((arc hj).symm.append_left q).trans hq;have hp0:∀ j,j∈left->j<l.length/\p (l.getD j d) s:=λj hj=>by
  refine⟨apN.1 (hq.mem_iff.1 (apQ _ hj)),?_⟩;have:=hO _ (Y _ (hmem j hj));rw[apT]at this;exact(OS W this).1
 obtain⟨L,hl,hex⟩:=h left cur s hp0;refine⟨L,_,hl,?_,hex⟩;have E:∀ e st' o,exC step l d exE arw st.h.length left s e st' o->∃ r js,(LCP st.h.length ns js D step p l s0 exE arw arP st).post r/\(LCP st.h.length ns js D step p l s0 exE arw arP st).ex r=e/\st.h.length<=((LCP st.h.length ns js D step p l s0 exE arw arP st).out r).h.length/\Sub js st.h.length st' ((LCP st.h.length ns js D step p l s0 exE arw arP st).out r):=by
  intro e st' o z;cases o with
  |none=>exact z.elim
  |some j=>
   obtain⟨hj,z⟩:=z;cases hs:step (l.getD j d) s with
   |inr s'=>rw[hs]at z;exact z.elim
   |inl x=>
    rw[hs]at z;obtain⟨q2,X,q3,q4⟩:=z;refine⟨.inl x,X,⟨_,Y _ (hmem j hj),?_⟩,q2,q3,q4⟩;simp_all [Dg,cG]
 intro e st' O;cases e with
 |normal=>
  change nxC step l d D st.h.length left s st' (AT (ap st'.h it))at O;cases ho:AT (ap st'.h it)with
  |none=>rw[ho]at O;exact O.elim
  |some j=>
   rw[ho]at O;obtain⟨hj,O⟩:=O;cases hs:step (l.getD j d) s with
   |inl x=>rw[hs]at O;exact O.elim
   |inr s'=>
    rw[hs]at O;obtain⟨X,q3,q4⟩:=O;refine⟨(left.erase j,some j,s'),X,⟨q++[j],?_,?_⟩,?_,q3,q4⟩;grind
    simp_all [Dg,cG];grind
 |exit j=>
  have V:(bif Nat.beq j id then(left=[]->qc (arP s) st.h.length st')/\(left≠[]->exC step l d exE arw st.h.length left s .normal st' (AT (ap st'.h it)))else exC step l d exE arw st.h.length left s (.exit j) st' (AT (ap st'.h it))):=O;show bif Nat.beq j id then _ else _;cases hb:Nat.beq j id with
  |true=>
   rw[hb]at V;simp only[cond_true]at V |-;by_cases hlt:left=[]
   obtain⟨X,q3,q4⟩:=V.1 hlt;refine⟨.inr s,X,⟨_,Y q g6,W⟩,rfl,q3,q4⟩;exact E _ _ _ (V.2 hlt)
  |false=>
   rw[hb]at V;exact E _ _ _ V
 |ret=>exact E _ _ _ O|pan x=>exact E _ _ _ O
end
def fkY {E st:St}{n0:Nat}{js:List Nat}(_:JL js)(h1:n0<=E.h.length:=by(first|(show _<=_;decide) |(simp only[*,go_sem,Nat.reduceBEq,Nat.reduceLeDiff,Nat.reduceAdd,Nat.reduceSub,Nat.reduceMul,Int.reduceLE,Int.reduceLT,Int.reduceToNat,Int.reduceNeg,reduceCtorEq];done) |(simp only[*,go_sem,Nat.reduceBEq,Nat.reduceLeDiff,Nat.reduceAdd,Nat.reduceSub,Nat.reduceMul,Int.reduceLE,Int.reduceLT,Int.reduceToNat,Int.reduceNeg,reduceCtorEq];(repeat' (first|with_reducible refine And.intro ?_ ?_|((with_reducible show _≠_);first|assumption|omega|(simp_all [bp,eS];done) |grind) |with_reducible intro _)) <;>(first|rfl|decide|assumption|omega|(simp_all [bp,eS];done) |fail))))(h2:Sub js n0 st E:=by(first|(show _<=_;decide) |(simp only[*,go_sem,Nat.reduceBEq,Nat.reduceLeDiff,Nat.reduceAdd,Nat.reduceSub,Nat.reduceMul,Int.reduceLE,Int.reduceLT,Int.reduceToNat,Int.reduceNeg,reduceCtorEq];done) |(simp only[*,go_sem,Nat.reduceBEq,Nat.reduceLeDiff,Nat.reduceAdd,Nat.reduceSub,Nat.reduceMul,Int.reduceLE,Int.reduceLT,Int.reduceToNat,Int.reduceNeg,reduceCtorEq];(repeat' (first|with_reducible refine And.intro ?_ ?_|((with_reducible show _≠_);first|assumption|omega|(simp_all [bp,eS];done) |grind) |with_reducible intro _)) <;>(first|rfl|decide|assumption|omega|(simp_all [bp,eS];done) |fail)))):qc E n0 st:=Mc js h1 h2
def afz {α:Type 1}{G:List SV->α->Prop}{X:SV}{k:List SV->Option α}(h:∀ l c,k l=some c->G (X::l) c):∀ l c,pQ X k l=some c->G l c:=λl c hc=>by
 obtain⟨r,rfl,h1⟩:=uu hc;grind
def clP {p:Prop}(h:p:=by((repeat' (first|with_reducible refine And.intro ?_ ?_|((with_reducible show _≠_);first|assumption|omega|(simp_all [bp,eS];done) |grind) |with_reducible intro _)) <;>(first|done|with_reducible exact Empty.elim ‹Empty› |with_reducible assumption|rfl|omega|assumption|(simp_all only[bp,eS];done) |(simp_all only[bp,eS];grind)))):p:=h
def Yd (k:Tag)(i:Nat)(t:List (Nat×SV))(h:List Ob):SV->St
 | .v (.slice none 0 0) =>⟨(i,.os h.length)::t,h++[.row k []]⟩|_=>⟨t,h⟩
def abl (k:Tag)(id off:Nat)(t:List (Nat×SV))(h:List Ob)(l:List SV):Option SV->St
 |some (.v (.slice none 0 0)) =>⟨t,cW h id (.cells (l.set off (.os h.length)))++[.row k []]⟩|_=>⟨t,h⟩
def afA (k:Tag)(id off:Nat)(t:List (Nat×SV))(h:List Ob):Ob->St
 | .cells l=>abl k id off t h l (nth l off)|_=>⟨t,h⟩
def abm (k:Tag)(j:Nat)(t:List (Nat×SV))(h:List Ob):SV->St
 | .ptr id off=>afA k id (off+j) t h (ap h id)|_=>⟨t,h⟩
def OU (k:Tag):ResultVar->List (Nat×SV)->List Ob->St
 | .tmp i,t,h=>Yd k i t h (lk i t)| .cell i j,t,h=>abm k j t h (lk i t)
def Md:List (ResultVar×Tag)->St->St
 | [],st=>st|x::r,st=>Md r (OU x.2 x.1 st.t st.h)
def abn (k:Tag)(r:ResultVar)(st:St):asv st (OU k r st.t st.h):=by
 obtain⟨t,h⟩:=st;cases r with
 |tmp i=>
  show asv _ (Yd k i t h (lk i t));unfold Yd;split
  rename_i e;exact .slot _ (.refl _) e (.inl ⟨_,rfl⟩);exact .refl _
 |cell i j=>
  show asv _ (abm k j t h (lk i t));unfold abm;split
  unfold afA;split
  rename_i e;unfold abl;split
  rename_i E;exact .cell _ (.refl _) e (by grind [iu]) (.inl ⟨_,rfl⟩);exact .refl _;exact .refl _;exact .refl _
theorem asv.trans {a b c:St}(h1:asv a b)(h2:asv b c):asv a c:=by
 induction h2 with
 |refl=>exact h1|cell o _ O W V E=>exact .cell o E O W V|slot o _ O V E=>exact .slot o E O V|atG k _ O E=>exact .atG k E O
def afB (l:List (ResultVar×Tag)):∀ st,asv st (Md l st):=by
 induction l with
 |nil=>exact λst=>.refl _
 |cons x r E=>exact λst=>(abn x.2 x.1 st).trans (E _)
def OV (l:List (ResultVar×Tag))(rs:List ResultVar)(ts:Tis)(post:SV->Prop)(pp:Value->Prop):Ex->St->Prop
 | .exit _,_=>False| .normal,st=>jO post (Gc true rs ts (Md l st))| .ret,st=>jO post (Gc true rs ts (Md l st))| .pan x,_=>pp x
section
variable {l:List (ResultVar×Tag)}{rs:List ResultVar}{ts:Tis}{post:SV->Prop}{pp:Value->Prop}{st:St}{k:Tag}{i id off:Nat}{t:List (Nat×SV)}{h:List Ob}{m:List SV}
@[go_sem] def aii:= @OV.eq_3
@[go_sem] def abo:= @OV.eq_2
@[go_sem] def aij:= @OV.eq_4
@[go_sem] def akc:= @Md.eq_1
@[go_sem]def aik {r:ResultVar}:Md ((r,k)::l) ⟨t,h⟩=Md l (OU k r t h):=(rfl)
@[go_sem] def ail:= @OU.eq_1
@[go_sem] def afC:= @OU.eq_2
@[go_sem] def akd:= @Yd.eq_1
@[go_sem]def amI:Yd k i t h (.os id)=⟨t,h⟩:=(rfl)
@[go_sem] def ake:= @abm.eq_1
@[go_sem] def afD:= @afA.eq_1
@[go_sem] def akf:= @abl.eq_1
@[go_sem]def amJ:abl k id off t h m (some (.os i))=⟨t,h⟩:=(rfl)
attribute [go_sem] List.set_cons_zero
end
section
variable {P:Program}{ts:Tis}{G:Cons}
def Ye (l:List (ResultVar×Tag))(hm:P.follows .mixedOrders=true)(hts:ts.ok P)(hG:arD P G){f:FuncId}{fn:Func}{c:Code}(hf:P.funcs[f]? =some fn)(hb:fn.body=some c)(hname:(fn.name== "runtime.NumGoroutine")=false)
  (hc:dq fn.ntmps c=true) {C:m0}
  (h:∀ l0 O,C l0=some O->an O->l0.length<=fn.ntmps/\∃ L,ak P none fn.ntmps L c/\exec ts G L c ⟨pn 0 l0,[]⟩ (OV l fn.results.toList ts (eA O) (lK O))):X1 P f C:=by
 refine⟨λl O _ args w=>?_,λl0 O Y hpre F w vs hF hvs=>?_⟩;simp_all [callFunc];obtain⟨hlen,L,hl,hx⟩:=h l0 O Y hpre;refine un (n:=0) (callsIn_of_wp_marks hf hb trivial ?_);have hr:arE F { w:=w,own:=dP} fn.ntmps dP ⟨pn 0 l0,[]⟩ { tmps:=vs++Array.replicate (fn.ntmps - vs.size) undef,defers:=[]} w:=
  ⟨by have:=hvs.1;simp;omega,Dfr.nil,BS hF,Fr.refl _,λt=>so hvs _ t⟩
 refine wpIn_mono (tC hm hts hG c hc hl F _ _ hx dP _ w hr) ?_;intro e a' w' hq;have key:∀ X own st,(∀ b,F b->X b)->arE X { w:=w,own:=dP} fn.ntmps own st a' w'->jO (eA O) (Gc true fn.results.toList ts (Md l st))->LeavesInM (rd none) 0 P fn a'.tmps
   (λe w'=>(∃ s u ee,eA O s/\e=.returned u/\Handed F w ee w' s u/\Below w.heap.size w w')\/(∃ x,lK O x/\e=.panicked [{ v:=x,recovered:=false}]/\Below w.heap.size w w')) a'.defers .returning w':=by
  intro X own0' st0 hF1 hst0 E;obtain⟨own,hst⟩:=(afB l st0).rel hst0;generalize Md l st0=st at hst E;refine oD hst (by simp) λw2 V=>?_;have W:=V.less hF1 rfl;unfold Gc at E;cases hs:u6 (sS ts st fn.results.toList)with
  |none=>
   simp only[cond_true,Ut]at E;rw[hs]at E;exact E.elim
  |some s=>
   obtain⟨u,e1,e2⟩:=BR (P:=P) hts W hs;refine⟨u,e1,.inl ?_⟩;simp only[cond_true,Ut]at E;rw[hs]at E;change jO (eA O) (Eb st.h s)at E;cases hg:Eb st.h s with
   |none=>rw[hg]at E;exact E.elim
   |some s2=>
    rw[hg]at E;obtain⟨ee,hh⟩:=Tn W e2 hg;exact⟨_,u,ee,E,rfl,hh,sn W.fr⟩
 cases e with
 |normal=>obtain⟨X,own,st,h0,h1,h2⟩:=hq;exact key X own st h0 h1 h2
 |ret=>obtain⟨X,own,st,h0,h1,h2⟩:=hq;exact key X own st h0 h1 h2
 |exit id=>obtain⟨X,own,st,h0,h1,h2⟩:=hq;exact h2.elim
 |panic ch=>
  obtain⟨x,X,own,st,h0,h1,h2,rfl⟩:=hq;exact oD h1 (by simp) λw2 V=>.inr ⟨x,h2,rfl,sn V.fr⟩
 |_=>exact hq.elim
end
section
universe u
variable {α:Type u}{G:List SV->α->Prop}
def apO:Option (List SV->Option α)->List SV->Option α
 |some q,r=>q r|none,_=>none
@[go_sem] def akg:= @apO.eq_1
@[go_sem] def akh:= @apO.eq_2
def pFn (f:Nat)(k:List SV->Option (List SV->Option α)):List SV->Option α
 | .fn g [] caps::r=>bif Nat.beq g f then apO (k caps) r else none|_=>none
def pXF (f:Nat)(k:List SV->Option (List SV->Option α)):List SV->Option α
 | .ep [.fn g [] caps] 0::r=>bif Nat.beq g f then apO (k caps) r else none|_=>none
@[go_sem] def an9:= @pFn.eq_1
@[go_sem] def an_:= @pXF.eq_1
variable {r:List SV}
theorem Tx{o:Option (List SV->Option α)}{c:α}(h:apO o r=some c):∃ q,o=some q/\q r=some c:=by
 cases o with
 |none=>cases h|some q=>exact⟨q,rfl,h⟩
variable {f:Nat}{k:List SV->Option (List SV->Option α)}
theorem o5(h:∀ caps q,k caps=some q->∀ l c,q l=some c->G (.fn f [] caps::l) c):∀ l c,pFn f k l=some c->G l c:=λl c hc=>by
 unfold pFn at hc;split at hc
 rename_i g caps r;cases E:Nat.beq g f with
 |false=>rw[E]at hc;cases hc
 |true=>
  rw[E]at hc;obtain⟨q,h1,h2⟩:=Tx hc;have:=aok E;subst this;exact h caps q h1 r c h2
 cases hc
theorem BV(h:∀ caps q,k caps=some q->∀ l c,q l=some c->G (.ep [.fn f [] caps] 0::l) c):∀ l c,pXF f k l=some c->G l c:=λl c hc=>by
 unfold pXF at hc;split at hc
 rename_i g caps r;cases E:Nat.beq g f with
 |false=>rw[E]at hc;cases hc
 |true=>
  rw[E]at hc;obtain⟨q,h1,h2⟩:=Tx hc;have:=aok E;subst this;exact h caps q h1 r c h2
 cases hc
def pFB (f:Nat)(k:List SV->Option (List SV->Option α)):List SV->Option α
 | .fn g caps []::r=>bif Nat.beq g f then apO (k caps) r else none|_=>none
def aki (f:Nat)(k:List SV->Option (List SV->Option α)):List SV->Option α
 | .ep [.fn g caps []] 0::r=>bif Nat.beq g f then apO (k caps) r else none|_=>none
@[go_sem] def aoa:= @pFB.eq_1
@[go_sem] def amK:= @aki.eq_1
variable {g:Nat}{c:List SV}{x:SV}
def aob{b:List SV}:pFB f k (.fn g b (x::c)::r)=none:=(rfl)
def amL{b:List SV}:aki f k (.ep [.fn g b (x::c)] 0::r)=none:=(rfl)
def aoc{b:List SV}:pFn f k (.fn g (x::b) c::r)=none:=(rfl)
def aod{b:List SV}:pXF f k (.ep [.fn g (x::b) c] 0::r)=none:=(rfl)
attribute[go_sem]aob amL aoc aod
end
def pXX {α:Type 1}(t:Tag)(k:t.T->List SV->Option α):List SV->Option α
 | .ep [s] 0::r=>pX t k (s::r)|_=>none
@[go_sem] def akj:= @pXX.eq_1
def xb {α:Type 1}{G:List SV->α->Prop}{t:Tag}{k:List t.T->List SV->Option α}(h:∀ n l c,k n l=some c->G (.ep [.rs t n] 0::l) c):∀ l c,pXR t k l=some c->G l c:=λl c hc=>by
 obtain⟨n,r,rfl,h1⟩:=Tv hc;exact h n r c h1
def cl3 {p:Prop}(h:p:=by((repeat' (first|with_reducible refine And.intro ?_ ?_|((with_reducible show _≠_);first|assumption|omega|(simp_all [bp,eS];done) |grind) |with_reducible intro _)) <;>(first|done|assumption|rfl|omega|exact cl|(simp_all only[Xn,Xo,aoK,Sum.inl.injEq,forall_eq',forall_const,true_imp_iff,cond_true,cond_false,and_self];done)))):p:=h
def OW (k:Tag)(K:List k.T->Option arV):List Ob->Option arV
 | [.row k' l] =>if h:k'=k then K (h▸l)else none|_=>none
@[go_sem]def amM {k:Tag}{K:List k.T->Option arV}{l:List k.T}:OW k K [.row k l]=K l:=by simp[OW]
def OX {k:Tag}{K:List k.T->Option arV}{h:List Ob}{c:arV}(E:OW k K h=some c):∃ l,h=[.row k l]/\K l=some c:=by
 unfold OW at E;split at E;split at E
 rename_i e;subst e;exact⟨_,rfl,E⟩;cases E;cases E
end Go.Sx
end
section
namespace Go.Sx
open Go.Proofs Tryz
open IntKind (i64)
def GZ (x:Int×Int):List SV:=[.i x.1,.i x.2]
def zU (H:Nat):Nat->List (Int×Int)
 |0=>[]
 |r+1=>((List.range H).map λh:Nat=>((r:Int),(h:Int)))++zU H r
def dx (d:ah):List (Int×Int):=zU d.hours.toNat d.reaches.length
def adg {j:Nat}(E:j<=aI):i64.wrap ((j:Int) - 1)=(j:Int) - 1:=by unfold aI at E;exact aw g5 g5
@[go_sem] def nZ:m0:=pD .al λd=>pE (.det True (.fn 245 [] [.ep (cellsOf .al d) 0]))
def BW:X1 prog 169 nZ:=by
 have hG:arD prog (mkG [] []):=na Y1 Y1;refine xa [.o] mixed aB hG (fn:=f169) (c:=ae f169) kr kr kr kr (ax λl=>am λE=>?_);refine⟨nbl rfl,L0,ag _,?_⟩;unfold ae f169;simp only[go_sem,sq,sr,Nat.reduceBEq,Nat.reduceLeDiff,Nat.reduceAdd,Nat.reduceSub,Nat.reduceMul]
def abp {α:Type}{l m:List α}{x:α}{k:Nat}(h:l.drop k=x::m):l[k]? =some x/\k+1<=l.length/\l.drop (k+1)=m:=by
 have E:(l.drop k)[0]? =l[k]?:=g6
 rw[h]at E;refine⟨E.symm,?_,by rw[<-arb,h];rfl⟩;grind
def ES (r H h:Nat):List (Int×Int):=((List.range' h (H - h)).map λh:Nat=>((r:Int),(h:Int)))
variable {r H:Nat}
theorem tX{h:Nat}(E:h<H):ES r H h=((r:Int),(h:Int))::ES r H (h+1):=by
 unfold ES;rw[show H - h=(H - (h+1))+1 by omega,apA];rfl
def BX:ES r H H=[]:=by simp[ES]
theorem yM:zU H (r+1)=ES r H 0++zU H r:=by
 grind [ES,zU,List.range_eq_range']
open Classical in
theorem U6 (d:ah)(hH:d.hours<9223372036854775808):AQ prog 245 (λy=>[y,.ep (cellsOf .al d) 0]) [] ((dx d).map GZ):=by
 unfold dx;generalize hI:(zU d.hours.toNat d.reaches.length).map GZ=items;refine OD (λr hr hy=>?_) (λargs w=>by kernel_rfl);have hG:arD prog (AS [] [] (itY items r)):=BT (by simp) (by simp) hy;refine⟨λl h=>if l=[.os 0,.ep (cellsOf .al d) 0]/\h=[.ab (r 1)]then some { α:=Nat,pre:=True,post:=λj=>j=0\/j=items.length+1,res:=λj=>.ret (.tup []) [.ab (r j)]}else none,
  ?_,_,if_pos ⟨rfl,rfl⟩,trivial,λj hj=>⟨_,j,_,rfl,hj⟩⟩
 refine oE mixed aB hG (fn:=f245) (c:=ae f245) kr kr kr kr λl o con h W=>?_;split at h
 rotate_left
 cases h;rename_i hlo;obtain⟨rfl,rfl⟩:=hlo;cases h;refine⟨nbl rfl,λid st=>bif Nat.beq id 0 then some { α:=Bool,pre:=lk 0 st.t=.os 0/\lk 1 st.t=.ep (cellsOf .al d) 0/\lk 3 st.t=.i ((d.reaches.length:Int) - 1)/\st.h=[.ab (r 1)]/\d.reaches.length<=aI,post:=λ_=>True,ex:=λb=>bif b then .normal else .ret,out:=λb=>⟨[],[.ab (r (bif b then items.length+1 else 0))]⟩:asq}else none,?_,?_⟩
 ·unfold ae f245;simp only[ak,true_and,and_true];refine ur mixed aB hG kr λst lc Y W=>?_;simp only[go_sem,Nat.reduceBEq,aoo]at Y;subst Y;obtain⟨t,h⟩:=st;dsimp only at W;obtain⟨h0,h1,h2,rfl,hm⟩:=W;refine⟨Nat×Nat,λx=>⟨[(0,.os 0),(1,.ep (cellsOf .al d) 0),(3,.i ((x.2:Int) - 1))],[.ab (r (x.1+1))]⟩,λx=>x.2<=d.reaches.length/\items.drop x.1=(zU d.hours.toNat x.2).map GZ/\x.1<=items.length,λx=>x.2,(0,d.reaches.length),[0],⟨aom _,hI.symm,aoV _⟩,aom _,?_,?_⟩;simp only[go_sem,h0,h1,h2,Nat.reduceBEq,Nat.reduceLeDiff,Nat.reduceAdd,true_and,and_true];rfl
  ·rintro⟨k,j⟩ ⟨hj,O,hk⟩;simp only at hj O hk;cases j with
   |zero=>
    refine⟨L0,_,ag _,λ_ _ q=>q,?_⟩;simp only[go_sem,Da hr,true_imp_iff,decide_eq_true_eq,aot,false_imp_iff,Nat.reduceBEq,Nat.reduceLeDiff,Nat.reduceAdd,Nat.reduceSub,Nat.reduceMul,true_and,and_true,implies_true];refine⟨λhn=>absurd hn (by decide),λhn=>?_⟩;have hlen:(zU d.hours.toNat 0).length=items.length - k:=by grind [List.length_map]
    have:(zU d.hours.toNat 0).length=0:=rfl;refine⟨true,[0],?_⟩;have e:items.length+1=k+1:=g5
    simp only[go_sem,e,Nat.reduceBEq,Nat.reduceLeDiff,Nat.reduceAdd,true_and,and_true];rfl
   |succ j=>
    have ej:((j+1:Nat):Int) - 1=(j:Int):=g5
    have hw:i64.wrap ((j:Int) - 1)=(j:Int) - 1:=adg g5;simp only[ej];refine⟨λid st=>bif Nat.beq id 2 then some { α:=Nat×Bool,pre:=lk 0 st.t=.os 0/\lk 1 st.t=.ep (cellsOf .al d) 0/\lk 3 st.t=.i j/\lk 14 st.t=.i d.hours/\lk 15 st.t=.i 0/\st.h=[.ab (r (k+1))],post:=λx=>x.2=true->items.drop x.1=(zU d.hours.toNat j).map GZ/\x.1<=items.length,ex:=λb=>bif b.2 then .normal else .ret,out:=λb=>⟨[(0,.os 0),(1,.ep (cellsOf .al d) 0),(3,.i j)],[.ab (r (bif b.2 then b.1+1 else 0))]⟩:asq}else none,_,?_,λ_ _ q=>q,?_⟩
    ·simp only[ak,true_and,and_true];refine ur mixed aB hG kr λst lc Y W=>?_;simp only[go_sem,Nat.reduceBEq,aoo]at Y;subst Y;obtain⟨t,h⟩:=st;dsimp only at W;obtain⟨i0,i1,i3,i14,i15,rfl⟩:=W;refine⟨Nat×Nat,λx=>⟨[(0,.os 0),(1,.ep (cellsOf .al d) 0),(3,.i j),(14,.i d.hours),(15,.i (x.2:Int))],[.ab (r (x.1+1))]⟩,λx=>x.2<=d.hours.toNat/\items.drop x.1=(ES j d.hours.toNat x.2++zU d.hours.toNat j).map GZ/\x.1<=items.length,λx=>d.hours.toNat - x.2,(k,0),[0],⟨aoV _,by rw[O,yM],hk⟩,aom _,?_,?_⟩;simp only[go_sem,i0,i1,i3,i14,i15,Nat.reduceBEq,Nat.reduceLeDiff,Nat.reduceAdd,true_and,and_true];grind
     ·rintro⟨k,g⟩ ⟨hg,E,hk⟩;simp only at hg E hk;refine⟨L0,_,ag _,λ_ _ q=>q,?_⟩;simp only[go_sem,Da hr,true_imp_iff,decide_eq_true_eq,aot,false_imp_iff,Nat.reduceBEq,Nat.reduceLeDiff,Nat.reduceAdd,Nat.reduceSub,Nat.reduceMul,true_and,and_true,implies_true];refine⟨λhlt=>?_,λhge=>?_⟩
      ·have V:g<d.hours.toNat:=g5
       rw[tX V,aoJ,aoO]at E;obtain⟨q1,q2,q3⟩:=abp E;have hw2:i64.wrap ((g:Int)+1)=((g+1:Nat):Int):=OH V hH;refine⟨q1,⟨(k+1,g+1),[0],⟨V,q3,q2⟩,g5,?_⟩,⟨(0,false),[0],(λh=>nomatch h),rfl,?_⟩,(λh=>nomatch h)⟩;all_goals simp only[go_sem,hw2,Nat.reduceBEq,Nat.reduceLeDiff,Nat.reduceAdd,true_and,and_true]
       all_goals (first|done|decide|(repeat' (first|refine And.intro ?_ ?_|rfl|decide)))
      ·have X:g=d.hours.toNat:=by
        grind
       subst X;rw[BX,aos]at E;refine⟨(k,true),[0],λ_=>⟨E,hk⟩,rfl,?_⟩;all_goals simp only[go_sem,Nat.reduceBEq,Nat.reduceLeDiff,Nat.reduceAdd,true_and,and_true]
       grind
    ·simp only[go_sem,true_imp_iff,decide_eq_true_eq,aot,false_imp_iff,Nat.reduceBEq,Nat.reduceLeDiff,Nat.reduceAdd,Nat.reduceSub,Nat.reduceMul,true_and,and_true,implies_true];refine⟨λ_ b hb=>?_,λhn=>absurd (Int.natCast_nonneg j) g6⟩;obtain⟨k',b⟩:=b;cases b with
     |true=>
      obtain⟨q1,q2⟩:=hb rfl;simp only[go_sem,hw,Nat.reduceBEq,Nat.reduceLeDiff,Nat.reduceAdd,true_and,and_true];refine⟨(k',j),[0],⟨g5,q1,q2⟩,Nat.lt_succ_self _,?_⟩;all_goals simp only[go_sem,hw,Nat.reduceBEq,Nat.reduceLeDiff,Nat.reduceAdd,true_and,and_true]
      rfl
     |false=>
      simp only[go_sem,Nat.reduceBEq,Nat.reduceLeDiff,Nat.reduceAdd,true_and,and_true];refine⟨false,[0],rfl,?_⟩;all_goals simp only[go_sem,hw,Nat.reduceBEq,Nat.reduceLeDiff,Nat.reduceAdd,true_and,and_true]
      rfl
 unfold ae f245;simp only[go_sem,true_imp_iff,decide_eq_true_eq,Nat.reduceBEq,Nat.reduceLeDiff,Nat.reduceAdd,Nat.reduceSub,Nat.reduceMul,true_and,and_true,implies_true];intro hm;rw[adg hm];refine⟨⟨rfl,hm⟩,λb=>?_⟩;cases b;simp only[go_sem];exact⟨0,_,_,[0],.inl rfl,rfl,aom 1,by simp only[go_sem,Nat.reduceBEq,Nat.reduceLeDiff,Nat.reduceAdd,true_and,and_true];rfl⟩;simp only[go_sem];exact⟨items.length+1,_,_,[0],.inr rfl,rfl,aom 1,by simp only[go_sem,Nat.reduceBEq,Nat.reduceLeDiff,Nat.reduceAdd,true_and,and_true];rfl⟩
@[go_sem] def G0:m0:=pR .order λl=>pE (.det (l.length*32<=dT) (.nw .order l))
theorem ET:X1 prog 168 G0:=by
 have hG:arD prog (mkG [] []):=na Y1 Y1;refine Ye [(.tmp 2,.order)] mixed aB hG (fn:=f168) (c:=ae f168) kr kr kr kr (bG λl=>am λE=>?_);dsimp only[an]at E;refine⟨nbl rfl,L0,ag _,?_⟩;unfold ae f168;simp only[go_sem,Nat.reduceBEq,Nat.reduceLeDiff,Nat.reduceAdd,Nat.reduceSub,Nat.reduceMul,Int.reduceLE,Int.reduceLT,Int.reduceToNat,Int.reduceNeg,reduceCtorEq];intro b V;refine⟨λh=>?_,λ_=>⟨E,λ_=>rfl⟩⟩;have O:=V h;subst O;rfl
def upL (d:ah):Nat->Int->List Int
 |0,_=>[]|f+1,n=>if 0<=n then n::upL d f (d.reaches.getD n.toNat (fg .reach)).up else []
def OY (d:ah):Nat->Int->Prop
 |0,n=>n<0|f+1,n=>0<=n->n<d.reaches.length/\OY d f (d.reaches.getD n.toNat (fg .reach)).up
def eW (d:ah)(n:Int):List Int:=upL d (n.toNat+1) n
def px (d:ah)(n:Int):Prop:=OY d (n.toNat+1) n
variable {d:ah}{f:Nat}{n:Int}
theorem Yf(h:OY d f n)(hn:0<=n):∃ E,f=E+1/\n<d.reaches.length/\OY d E (d.reaches.getD n.toNat (fg .reach)).up/\upL d f n=n::upL d E (d.reaches.getD n.toNat (fg .reach)).up:=by
 cases f with
 |zero=>grind [OY]
 |succ E=>
  obtain⟨h1,h2⟩:=h hn;simp_all [upL]
theorem FF(hn:¬0<=n):upL d f n=[]:=by
 cases f with
 |zero=>rfl|succ E=>rw[upL,if_neg hn]
def OZ (x:Int):List SV:=[.i x]
@[go_sem] def Ej:List SV->List Ob->Option arV:=λl h=>noH h ((pD .al λd=>pI λn=>pE (fM True (.fn 234 [] [.ptr 0 0,.ptr 1 0]) [.cells [.i n],.cells (cellsOf .al d)])) l)
theorem Me:arT prog 160 Ej:=by
 have hG:arD prog (mkG [] []):=na Y1 Y1;refine oE mixed aB hG (fn:=f160) (c:=ae f160) kr kr kr kr λl o E h V=>?_;unfold Ej at h;obtain⟨rfl,h⟩:=Tr h;obtain⟨n,l0,rfl,O⟩:=ut h;obtain⟨d,l1,rfl,h1⟩:=RD O;obtain⟨rfl,rfl⟩:=nc h1;refine⟨nbl rfl,L0,ag _,?_⟩;unfold ae f160;simp only[go_sem,Nat.reduceBEq,Nat.reduceLeDiff,Nat.reduceAdd,Nat.reduceSub,Nat.reduceMul];refine⟨(),_,_,[1,0],trivial,rfl,?_⟩;simp only[go_sem,Nat.reduceBEq,Nat.reduceLeDiff,Nat.reduceAdd,true_and,and_true];grind
open Classical in
theorem akk (d:ah)(n0:Int)(V:px d n0):AQ prog 234 (λy=>[y,.ptr 1 0,.ptr 2 0]) [.cells [.i n0],.cells (cellsOf .al d)] ((eW d n0).map OZ):=by
 unfold px at V;unfold eW;generalize hI:(upL d (n0.toNat+1) n0).map OZ=items;refine OD (λr hr hy=>?_) (λargs w=>by kernel_rfl);have hG:arD prog (AS [] [] (itY items r)):=BT (by simp) (by simp) hy;refine⟨λl h=>if l=[.os 0,.ptr 1 0,.ptr 2 0]/\h=[.ab (r 1),.cells [.i n0],.cells (cellsOf .al d)]then some { α:=Nat,pre:=True,post:=λj=>j=0\/j=items.length+1,res:=λj=>.ret (.tup []) [.ab (r j),.dead,.dead]}else none,
  ?_,_,if_pos ⟨rfl,rfl⟩,trivial,λj X=>⟨_,j,_,rfl,X⟩⟩
 refine oE mixed aB hG (fn:=f234) (c:=ae f234) kr kr kr kr λl o con h hp=>?_;split at h
 rotate_left
 cases h;rename_i Y;obtain⟨rfl,rfl⟩:=Y;cases h;refine⟨nbl rfl,λid st=>bif Nat.beq id 0 then some { α:=Nat×Bool,pre:=lk 0 st.t=.os 0/\lk 1 st.t=.ptr 1 0/\lk 2 st.t=.ptr 2 0/\st.h=[.ab (r 1),.cells [.i n0],.cells (cellsOf .al d)],post:=λj=>j.1=0\/j.1=items.length+1,ex:=λj=>bif j.2 then .ret else .normal,out:=λj=>⟨[],[.ab (r j.1),.dead,.dead]⟩:asq}else none,?_,?_⟩
 ·unfold ae f234;simp only[ak,true_and,and_true];refine ur mixed aB hG kr λst lc hC hp=>?_;simp only[go_sem,Nat.reduceBEq,aoo]at hC;subst hC;obtain⟨t,h⟩:=st;dsimp only at hp;obtain⟨h0,h1,h2,rfl⟩:=hp;refine⟨Nat×Nat×Int,λx=>⟨[(0,.os 0),(1,.ptr 1 0),(2,.ptr 2 0)],[.ab (r (x.1+1)),.cells [.i x.2.2],.cells (cellsOf .al d)]⟩,λx=>OY d x.2.1 x.2.2/\items.drop x.1=(upL d x.2.1 x.2.2).map OZ/\x.1<=items.length,λx=>x.2.1,(0,n0.toNat+1,n0),[0,1,2],⟨V,hI.symm,aoV _⟩,aom _,?_,?_⟩;simp only[go_sem,h0,h1,h2,Nat.reduceBEq,Nat.reduceLeDiff,Nat.reduceAdd,true_and,and_true];decide
  ·rintro⟨k,f,n⟩ ⟨hf,E,hk⟩;simp only at hf E hk;refine⟨L0,_,ag _,λ_ _ q=>q,?_⟩;simp only[go_sem,Da hr,true_imp_iff,decide_eq_true_eq,aot,false_imp_iff,Nat.reduceBEq,Nat.reduceLeDiff,Nat.reduceAdd,Nat.reduceSub,Nat.reduceMul,true_and,and_true,implies_true];have O:(upL d f n).length=items.length - k:=by grind [List.length_map]
   refine⟨λhn=>?_,λhn=>?_⟩
   ·obtain⟨f',rfl,e1,e2,e3⟩:=Yf hf hn;have W:items[k]? =some (OZ n):=by
     have:(items.drop k)[0]? =items[k]?:=g6
     grind
    rw[e3]at E O;have hk1:k+1<=items.length:=g6
    have hd':items.drop (k+1)=(upL d f' (d.reaches.getD n.toNat (fg .reach)).up).map OZ:=by rw[<-arb,E];rfl
    refine⟨W,⟨⟨hn,e1⟩,(k+1,f',(d.reaches.getD n.toNat (fg .reach)).up),[0,1,2],⟨e2,hd',hk1⟩,Nat.lt_succ_self _,?_⟩,⟨(0,true),[0,1,2],.inl rfl,rfl,?_⟩,λh=>nomatch h⟩;all_goals simp only[go_sem,Nat.reduceBEq,Nat.reduceLeDiff,Nat.reduceAdd,true_and,and_true]
    all_goals (first|done|decide|(repeat' (first|refine And.intro ?_ ?_|rfl|decide)))
   have hn':¬0<=n:=g6
   rw[FF hn']at O;simp at O;refine⟨(k+1,false),[0,1,2],.inr g5,rfl,?_⟩;simp only[go_sem,Nat.reduceBEq,Nat.reduceLeDiff,Nat.reduceAdd,true_and,and_true];decide
 unfold ae f234;simp only[go_sem,true_imp_iff,decide_eq_true_eq,Nat.reduceBEq,Nat.reduceLeDiff,Nat.reduceAdd,Nat.reduceSub,Nat.reduceMul,true_and,and_true,implies_true];rintro⟨j,b⟩ X;cases b;simp only[go_sem];exact⟨j,_,_,[0,1,2],X,rfl,aom 3,by simp only[go_sem,Nat.reduceBEq,Nat.reduceLeDiff,Nat.reduceAdd,true_and,and_true];decide⟩;simp only[go_sem];exact⟨j,_,_,[0,1,2],X,rfl,aom 3,by simp only[go_sem,Nat.reduceBEq,Nat.reduceLeDiff,Nat.reduceAdd,true_and,and_true];decide⟩
def hUp (K:Int->ah->Option arV):List Ob->Option arV
 | [.cells [.v (.int .i64 n)],.cells c] =>pDo (λd _=>K n d) [] (xN .al c)
 |_=>none
@[go_sem] def aoe:= @hUp.eq_1
theorem Tz {K:Int->ah->Option arV}{h:List Ob}{c:arV}(E:hUp K h=some c):∃ n d,h=[.cells [.i n],.cells (cellsOf .al d)]/\K n d=some c:=by
 unfold hUp at E;split at E
 rename_i n cs;obtain⟨x,r,O,V⟩:=GS (t:=.al) (kd:=λd _=>K n d) (l:=[.ep cs 0]) E;simp at O;obtain⟨rfl,rfl⟩:=O;exact⟨n,x,rfl,V⟩;cases E
abbrev abq:SV:=.fn 234 [] [.ptr 0 0,.ptr 1 0]
noncomputable def jQ:List SV->List Ob->Option arV:=λl h=>hUp (λn d=>pQ (.v (.slice none 0 0)) (pQ abq (pE (fM (0<=n/\px d n/\(eW d n).length*8<=dT) (.os 2) [.dead,.dead,.row .int (eW d n)]))) l) h
noncomputable def rg:List SV->List Ob->Option arV:=λl h=>hUp (λn d=>pQ abq (pE (fM (0<=n/\px d n/\(eW d n).length*8<=dT) (.os 2) [.dead,.dead,.row .int (eW d n)])) l) h
def Ek:List Int->List Ob
 | [] =>[.dead,.dead,.cells [.v (.slice none 0 0)]]|x::l=>[.dead,.dead,.cells [.os 3],.row .int (x::l)]
def El (x:Int)(l:List Int):Empty⊕List Int:=.inr (l++[x])
theorem KB:∀ (l m:List Int),cG El l m=.inr (m++l)
 | [],m=>by simp[cG]
 |x::l,m=>by simp only[cG,El];rw[KB l];simp
theorem O0 {B:Nat}:∀ (l m:List Int),m.length+l.length<=B->okL El (λ_ s=>s.length+1<=B) l m
 | [],_,_=>trivial
 |x::l,m,h=>⟨by simp at h;omega,λs' E=>by
  simp only[El,aoK]at E;subst E;exact O0 l _ (by simp at h |-;omega)⟩
theorem afE {d:ah}{n:Int}(hn:0<=n):∃ x l,eW d n=x::l:=⟨_,_,by unfold eW;rw[upL,if_pos hn]⟩
theorem zq1 {p:Prop}(h:p:=by simp only[go_sem,e6]):p:=h
theorem zV:arT prog 233 jQ:=by
 have hG:arD prog (mkG [] []):=na Y1 Y1;refine oE mixed aB hG (fn:=f233) (c:=ae f233) kr kr kr kr λl o con h E=>?_;unfold jQ at h;obtain⟨n,d,rfl,Y⟩:=Tz h;obtain⟨l0,rfl,h1⟩:=uu Y;obtain⟨l1,rfl,h2⟩:=uu h1;obtain⟨rfl,rfl⟩:=nc h2;obtain⟨hn,O,hB⟩:=E;refine⟨nbl rfl,λid st=>bif Nat.beq id 0 then some (LC (ρ:=Empty) (σ:=List Int) (lk 2 st.t=.ptr 2 0/\lk 6 st.t=abq/\st.h=[.cells [.i n],.cells (cellsOf .al d),.cells [.v (.slice none 0 0)]]) (cG El (eW d n) []) (·.elim) (·.elim) (λs=>⟨[(2,.ptr 2 0)],Ek s⟩))else none,?_,?_⟩
 ·unfold ae f233;simp only[ak,true_and,and_true];refine pw mixed aB hG (by decide) (by decide) kr kr λst lc X E=>?_;simp only[go_sem,Nat.reduceBEq,aoo]at X;subst X;obtain⟨t,h⟩:=st;dsimp only[LC]at E;obtain⟨e2,e6,rfl⟩:=E;refine⟨234,[.ptr 0 0,.ptr 1 0],Int,_,_,eW d n,OZ,El,λ_ s=>s.length+1<=(eW d n).length,_,[],_,_,_,[(2,.ptr 2 0)],Ek,(·.elim),[0,1,2],?_,rfl,O0 _ _ (by simp),nbl rfl,?_,?_,λx s hq=>⟨rfl,L0,λl=>ag _,λl=>ag _,?_⟩,λs=>?_,λy=>y.elim⟩;exact zq1
  ·simp only[go_sem,sp,kg,aoF,apf,aos,aoC,aoZ,Ek,e2,Nat.reduceBEq,Nat.reduceLeDiff,Nat.reduceAdd];all_goals (first|done|decide|(repeat' (first|refine And.intro ?_ ?_|rfl|decide)))
  exact akk d n O;have V:(s++[x]).length*8<=dT:=by simp;omega
  cases s with
  |nil=>
   simp only[go_sem,psT,OZ,Ek,El,aoJ,aos,Nat.reduceBEq,Nat.reduceLeDiff,Nat.reduceAdd,Nat.reduceSub,Nat.reduceMul];exact⟨by simpa using V,λ_=>fk (jl [0,1,2,4])⟩
  |cons a m=>
   simp only[go_sem,psT,OZ,Ek,El,aoJ,aos,Nat.reduceBEq,Nat.reduceLeDiff,Nat.reduceAdd,Nat.reduceSub,Nat.reduceMul];exact⟨by simpa using V,λ_=>fk (jl [0,1,2,5])⟩
  cases s with
  |nil=>simp only[Ek];exact fk (jl [0,1,2])|cons a m=>simp only[Ek];exact fk (jl [0,1,2,3])
 ·unfold ae f233;obtain⟨x,l,W⟩:=afE (d:=d) hn;simp only[go_sem,Nat.reduceBEq,Nat.reduceLeDiff,Nat.reduceAdd,Nat.reduceSub,Nat.reduceMul,KB,W,Ek,aos];refine⟨λy=>y.elim,λs hs=>?_⟩;cases hs;simp only[go_sem,Nat.reduceBEq,Nat.reduceLeDiff,Nat.reduceAdd,Nat.reduceSub,Nat.reduceMul];refine⟨(),_,_,[0,1,3],trivial,rfl,?_⟩;simp only[go_sem,W,Nat.reduceBEq,Nat.reduceLeDiff,Nat.reduceAdd,true_and,and_true];all_goals (first|done|decide|(repeat' (first|refine And.intro ?_ ?_|rfl|decide)))
theorem BY:arT prog 159 rg:=by
 have hG:arD prog (mkG [] [(233,jQ)]):=na Y1 (cgc zV Y1);refine oE mixed aB hG (fn:=f159) (c:=ae f159) kr kr kr kr λl o O h E=>?_;unfold rg at h;obtain⟨n,d,rfl,V⟩:=Tz h;obtain⟨l1,rfl,h2⟩:=uu V;obtain⟨rfl,rfl⟩:=nc h2;refine⟨nbl rfl,L0,ag _,?_⟩;unfold ae f159;simp only[go_sem,jQ,abq,Nat.reduceBEq,Nat.reduceLeDiff,Nat.reduceAdd,Nat.reduceSub,Nat.reduceMul];refine⟨E,(),_,_,[0,1,2],trivial,rfl,?_⟩;simp only[go_sem,Nat.reduceBEq,Nat.reduceLeDiff,Nat.reduceAdd,true_and,and_true];all_goals (first|done|decide|(repeat' (first|refine And.intro ?_ ?_|rfl|decide)))
attribute [go_sem] jQ rg
end Go.Sx
end
section
namespace Go.Sx
open Go.RowKit
def pXM {α:Type 1}(t t2:Tag)(k:List (t.T×t2.T)->List SV->Option α):List SV->Option α
 | .ep [s] 0::r=>pM t t2 k (s::r)|_=>none
@[go_sem] def akl:= @pXM.eq_1
def Mf {α:Type 1}{G:List SV->α->Prop}{t t2:Tag}{k:List (t.T×t2.T)->List SV->Option α}(h:∀ n l c,k n l=some c->G (.ep [.rm t t2 n] 0::l) c):∀ l c,pXM t t2 k l=some c->G l c:=λl c hc=>by
 unfold pXM at hc;split at hc
 obtain⟨x,r,e,h1⟩:=Xl hc;simp only[apS]at e;obtain⟨rfl,rfl⟩:=e;exact h x _ c h1;cases hc
section
universe u
variable {α:Type u}{G:List SV->α->Prop}
def pLS (k:List SV->Option (List SV->Option α)):List SV->Option α
 | .ls 1 l::r=>apO (k l) r|_=>none
@[go_sem] def aof:= @pLS.eq_1
end
open Classical in
noncomputable def kh {τ:Type}(A:τ->List SV)(H:τ->List Ob)(K:τ->arV):List SV->List Ob->Option arV:=λl h=>if e:∃ x,l=A x/\h=H x then some (K e.choose)else none
def Yg (x:bn):(⟨x.no,x.kind,x.right,x.since,x.to,x.parts,x.of_,x.at_,x.known⟩:bn)=x:=rfl
def Mg (d:ah):(⟨d.name,d.hours,⟨d.arJ.cap,d.arJ.start⟩,d.reaches,d.zs,d.arU,d.bh,d.arL,d.asl⟩:ah)=d:=rfl
def U7 {k:Tag}{x y:k.T}:cellsOf k x=cellsOf k y↔x=y:=⟨λh=>by
 have h1:=C2 x;rw[h,C2 y]at h1;exact(Option.some.inj h1).symm,λh=>by rw[h]⟩
def gA {τ:Type}{A:τ->List SV}{H:τ->List Ob}{K:τ->arV}{x:τ}(E:∀ x y,A x=A y->H x=H y->x=y:=by
 intro x y h1 h2;simp only[apS,SV.agg.injEq,SV.ep.injEq,SV.v.injEq,Value.int.injEq,Value.bool.injEq,Value.string.injEq,SV.fn.injEq,SV.rs.injEq,SV.rm.injEq,Ob.row.injEq,Ob.mp.injEq,Ob.cells.injEq,Ob.ar2.injEq,heq_eq_eq,U7,true_and,and_true]at h1 h2;first|exact h2|exact h1|(simp_all [Prod.ext_iff];done)):kh A H K (A x) (H x)=some (K x):=by
 have e:∃ y,A x=A y/\H x=H y:=⟨x,rfl,rfl⟩;unfold kh;rw[dif_pos e];have:=E _ _ e.choose_spec.1 e.choose_spec.2;rw[<-this]
def eD {τ:Type}{A:τ->List SV}{H:τ->List Ob}{K:τ->arV}{l:List SV}{h:List Ob}{c:arV}(E:kh A H K l h=some c):∃ x,l=A x/\h=H x/\c=K x:=by
 unfold kh at E;split at E
 rename_i e;simp only[aoo]at E;exact⟨e.choose,e.choose_spec.1,e.choose_spec.2,E.symm⟩;cases E
section
variable {P:Program}{ts:Tis}{G:Cons}{N:Nat}
theorem AU (hm:P.follows .mixedOrders=true)(hts:ts.ok P)(hG:arD P G){id:Nat}{g:Operand}{X:Array Tmp}{assign body:Code}{C:St->Option asq}
  (hpn:X.toList.Nodup) (hpN:∀ p∈X.toList,p<N) (hca:dq N assign=true) (Y:dq N body=true)
  (h:∀ E W,C E=some W->W.pre->∃ st,asv E st/\∃ (f:FuncId) (caps:List SV) (τ ρ σ:Type) (l:List τ) (mk:τ->List SV) (step:τ->σ->ρ⊕σ) (p:τ->σ->Prop) (pre:Prop) (s0:σ) (exE:ρ->Ex) (arw:ρ->St) (arP:σ->St) (T:List (Nat×SV)) (H:σ->List Ob) (Hy:ρ->List Ob) (js:List Nat),
   raw st.t g=.fn f [] caps/\W=LC pre (cG step l s0) exE arw arP/\okL step p l s0/\st.h.length<=(H s0).length/\Sub js st.h.length ⟨st.t,sp (kg st caps) st.h⟩ ⟨T,H s0⟩/\
   AQ P f (λy=>y::caps.map (ren (RG (kg st caps)) 3)) (OF (kg st caps) st.h) (l.map mk)/\
   (∀ x s,p x s->(mk x).length=X.size/\∃ L,(∀ l,ak P (some l) N L assign)/\(∀ l,ak P (some l) N L body)/\exec ts G L assign ⟨psT X.toList (mk x)++T,H s⟩ (λe st1=>e=.normal/\exec ts G L body st1 (rgQ step exE T H Hy st.h.length id x s)))/\
   (∀ s,qc (arP s) st.h.length ⟨T,H s⟩)/\∀ y,qc (arw y) st.h.length ⟨T,Hy y⟩):my P none N id (.rangeFunc g X assign body) C:=by
 intro nd F w0 E W hC O own a w hr;obtain⟨st,hN,V⟩:=h E W hC O;obtain⟨ee,hr'⟩:=hN.rel hr;refine pw hm hts hG hpn hpN hca Y (C:=λs=>@ite _ (s=st) (Classical.propDecidable _) (some W) none) (λs l e _=>?_) nd F w0 st W (if_pos rfl) O ee a w hr';split at e
 rename_i e1;subst e1;cases e;exact V;cases e
end
def afF (n0 id:Nat):Ob->SV
 | .row k l=>bif Nat.ble n0 id then .rs k l else .any|_=>.any
def isV:SV->Bool
 | .v _=>true|_=>false
def U8 (n0:Nat)(h:List Ob):SV->SV
 | .v x=>.v x| .rs k l=>.rs k l| .agg l=>bif l.all isV then .agg l else .any| .os id=>afF n0 id (ap h id)|_=>.any
def RJ (n0:Nat)(h:List Ob):SV->SV
 | .tup l=>.tup (l.map (U8 n0 h))|s=>U8 n0 h s
section
variable {F:Nat->Prop}{own:Own}{w:World}{n0:Nat}{h:List Ob}
@[go_sem] def akm:= @RJ.eq_1
def amN {a:Nat}:RJ n0 h (.os a)=afF n0 a (ap h a):=(rfl)
def aog {x:Value}:RJ n0 h (.v x)=.v x:=(rfl)
def amO {k:Tag}{l:List k.T}:RJ n0 h (.rs k l)=.rs k l:=(rfl)
def akn {l:List SV}:RJ n0 h (.agg l)=bif l.all isV then .agg l else .any:=(rfl)
attribute[go_sem]amN aog amO akn
@[go_sem] def aoh:= @U8.eq_1
@[go_sem] def amP:= @U8.eq_2
@[go_sem] def ako:= @U8.eq_3
@[go_sem] def amQ:= @U8.eq_4
@[go_sem] def akp:= @afF.eq_1
@[go_sem] def avk:= @isV.eq_1
end
def afG (pks:List Pk)(n0:Nat)(S:SV)(H h:List Ob):Option SV->Prop
 |some s=>S=yJ pks (RJ n0 h s)/\qc ⟨[],H⟩ n0 ⟨[],h⟩|none=>False
def adh (pks:List Pk)(n0:Nat)(rs:List ResultVar)(ts:Tis)(S:SV)(H:List Ob):Ex->St->Prop
 | .exit _,_=>False| .normal,st=>afG pks n0 S H st.h (u6 (sS ts st rs))| .ret,st=>afG pks n0 S H st.h (u6 (sS ts st rs))| .pan _,_=>False
section
variable {P:Program}{ts:Tis}{G:Cons}{n0:Nat}{S s:SV}{H h:List Ob}{rs:List ResultVar}{st:St}{pks:List Pk}
@[go_sem] def aim:= @afG.eq_1
@[go_sem] def abr:= @adh.eq_2
@[go_sem] def ain:= @adh.eq_3
end
def akq (h:List Ob):Option Con->Option arV
 |some (.det p s) =>some (fM p (RJ 0 (aZ 3 s) (j_ 3 0 s)) (h.map λ_=>.dead))
 |_=>none
def au2 (C:m0)(l:List SV)(h:List Ob):Option arV:=akq h (C (l.map (jq h 6)))
@[go_sem] def amR:= @au2.eq_1
@[go_sem] def akr:= @akq.eq_1
section
variable {P:Program}{F:Nat->Prop}{own:Own}{w w':World}
end
end Go.Sx
end
section
namespace Go.Sx
def aks {a:TI}{b:Nat}{h:List Ob}{s:SV}:nU a b h [.any,s]=.bad:=(rfl)
def aoi {t:Tag}{f:List t.T->List SV->Option Con}{l:List SV}:pR t f (.any::l)=none:=(rfl)
attribute[go_sem]aks aoi
end Go.Sx
end
section
namespace Go.Sx
universe u
section
variable {α:Type u}
def pV (k:Int->List SV->Option α):List SV->Option α
 | .v (.int .u8 n)::r=>k n r|_=>none
@[go_sem] def amS:= @pV.eq_1
def pW (k:Int->List SV->Option α):List SV->Option α
 | .v (.int .u16 n)::r=>k n r|_=>none
@[go_sem] def amT:= @pW.eq_1
end
end Go.Sx
end
section
namespace Go.Sx
open Go.RowKit
def orC {α:Type 1}:Option α->Option α->Option α
 |some x,_=>some x|none,y=>y
@[go_sem] def akt:= @orC.eq_1
@[go_sem] def aku:= @orC.eq_2
def zA {α:Type 1}{a b:Option α}{c:α}(h:orC a b=some c):a=some c\/b=some c:=by
 cases a with
 |none=>exact .inr h|some x=>exact .inl h
variable {P:Program}{f:FuncId}
theorem arT.or{C D:List SV->List Ob->Option arV}(h1:arT P f C)(h2:arT P f D):arT P f (λl h=>orC (C l h) (D l h)):=
 ⟨λl h c hc=>by rcases zA hc with e|e;exact h1.enter l h c e;exact h2.enter l h c e,
  λl h c hc=>by rcases zA hc with e|e;exact h1.calls l h c e;exact h2.calls l h c e⟩
theorem X1.or{C D:m0}(h1:X1 P f C)(h2:X1 P f D):X1 P f (λl=>orC (C l) (D l)):=
 ⟨λl c hc=>by rcases zA hc with e|e;exact h1.enter l c e;exact h2.enter l c e,
  λl c hc=>by rcases zA hc with e|e;exact h1.calls l c e;exact h2.calls l c e⟩
end Go.Sx
end
section
namespace Go.Sx
def afH {α:Type}:Result α->World
 | .ok _ w=>w| .halt _ w=>w
def RK {α:Type}:∀ (a:Ask α) (w:World),w.drawn<=(w.ask a).2.drawn
 | .done a,w=>aom _
 | .ask what range k,w=>by
  unfold World.ask;dsimp only;split
  exact RK _ w;exact aoA (Nat.le_succ _) (RK _ { w with drawn:=w.drawn+1})
def afI (w:World)(c:Sys):w.drawn<=(w.sys c).2.drawn:=by
 unfold World.sys;have:=RK (Kernel.perform c w.os) w;grind
variable {p:Program}{w:World}{v:Value}
def O1{w':World}{a:Addr}{b:Bool}{l:List Addr}(h:w.farStore p a v b=.ok (w',l)):w'.drawn=w.drawn:=by
 unfold World.farStore at h;split at h
 ·split at h
  ·rename_i r hr;cases h;unfold World.viewStore at hr;simp only[bind,Except.bind,pure,Except.pure]at hr
   repeat' split at hr
   all_goals (first|(cases hr;done) |skip)
   all_goals (cases hr;rfl)
  cases h
 cases h
variable {α:Type}
theorem Mh(p:Program):∀ (s:Sem α) (w:World),w.drawn<=(afH (s.run p w)).drawn:=by
 intro s;induction s with
 |pure a=>intro w;exact aom _
 |load m a k E=>
  intro w;unfold Sem.run;split
  exact E _ w;split
  exact E _ w;exact aom _
 |store m a v k E=>
  intro w;cases v
  case agg=>exact aom _
  case tuple=>exact aom _
  all_goals
   simp only[Sem.run];split
   split
   exact aom _;exact E (w.setCell a _);split
   rename_i h;rw[<-O1 h];exact E _;exact aom _
 |new o k E=>intro w;exact E w.heap.size { w with heap:=w.heap.push o}
 |shape r k E=>intro w;exact E _ _
 |freeze a n k E=>
  intro w;have:(w.freeze a n).drawn=w.drawn:=by grind [World.freeze]
  rw[<-this];exact E _
 |frozen a k E=>intro w;exact E _ _
 |getObj r k E=>
  intro w;unfold Sem.run;split
  exact aom _;exact E _ _;exact aom _
 |setObj r o k E=>
  intro w;unfold Sem.run;split
  exact aom _;grind
  exact aom _
 |choose q k E=>
  grind [Sem.run]
 |sys c k E=>intro w;exact aoA (afI w c) (E _ _)|program k E=>intro w;exact E _ _|mark m k E=>intro w;exact E _|halt h=>intro w;exact aom _
theorem Yh(p:Program):∀ (s:Sem α) (w:World) (es:Array Event),(s.runT p w es).1=s.run p w:=by
 simp_all
theorem nf{s:Sem α}{w':World}{a:α}(h:s.run p w=.ok a w'):w.drawn<=w'.drawn:=by have:=Mh p s w;rw[h]at this;exact this
theorem Yi{s:Sem α}{w':World}{a:Halt}(h:s.run p w=.halt a w'):w.drawn<=w'.drawn:=by have:=Mh p s w;rw[h]at this;exact this
theorem tE{s:Sem α}{es E:Array Event}{r:Result α}(h:s.runT p w es=(r,E)):w.drawn<=(afH r).drawn:=by
 have:=Yh p s w es;rw[h]at this;have h2:=Mh p s w;grind
def gLe (w:World):GStep->Prop
 | .ended .. =>True| .go _ w' _| .comm _ _ _ _ w' _| .spawn _ _ w' _| .count _ w' _| .timer _ _ w' _| .alone _ _ w' _| .newcoro _ _ _ w' _| .coroswitch _ _ _ w' _| .collect _ w' _| .watch _ w' _=>w.drawn<=w'.drawn
theorem gLe.after{es:Array Event}{s:GStep}(h:gLe w s):gLe w (s.after es):=by cases s <;>exact h
theorem gLe.trans{w':World}{s:GStep}(h1:w.drawn<=w'.drawn)(h:gLe w' s):gLe w s:=by cases s <;>first|trivial|exact aoA h1 h
theorem FG{c:Prop}[Decidable c]{a b:GStep}(h1:gLe w a)(h2:gLe w b):gLe w (if c then a else b):=g6
def vA (a:Frame)(m:String)(w:World):gLe w (endThrow a m w):=aom _
theorem yN (p:Program)(fr:Frame)(v:Value)(w:World):gLe w (endPrinting p fr v w):=by
 unfold endPrinting;dsimp only;split
 exact vA _ _ _;trivial
theorem Em (p:Program)(fr:Frame)(E:List Frame)(O:Option Dying)(m:String)(w:World):gLe w (endFatal p fr E O m w):=by
 unfold endFatal
 extract_lets
 split
 rename_i h;exact nf h;trivial;trivial
theorem RL (p:Program)(fr:Frame)(d:Dying)(f:Fatal)(w:World):gLe w (writeOn p fr d f w):=by
 unfold writeOn
 extract_lets
 split
 trivial
 extract_lets
 generalize h:Sem.runT _ _ _ _=rr;obtain⟨r,es⟩:=rr;have h:=tE h;split
 rename_i e;cases e;exact h;rename_i e;cases e;exact h;trivial;trivial
theorem RM (w w':World)(fd:Nat)(t:ByteArray)(o:Outcome):gLe w (endWith w' fd t o):=by
 unfold endWith
 extract_lets
 split
 split <;>trivial
 trivial;trivial
theorem afJ (p:Program)(fr:Frame)(d:Dying)(w:World):gLe w (die p fr d w):=by
 unfold die;split
 exact RL _ _ _ _ _
 ·split
  split
  exact aom _;exact RM _ _ _ _ _
  ·extract_lets
   split
   exact aom _;split
   rename_i h;exact nf h;trivial
   ·split
    rename_i h;have h:=tE h;refine gLe.after ?_;split
    all_goals first|exact h|trivial|exact gLe.trans h (yN _ _ _ _)
   trivial
theorem yO (p:Program)(V:Bool)(fr:Frame)(E:List Frame)(O:Option Dying)(v:Value)(w:World):gLe w (doReturn p V fr E O v w):=by
 unfold doReturn;split
 ·split
  all_goals exact aom _
 split
 exact aom _;trivial;split
 exact aom _;split
 exact aom _;trivial
theorem EU (p:Program)(fr:Frame)(E:List Frame)(O:Option Dying)(d:Deferred)(w:World):gLe w (callDeferred p fr E O d w):=by
 unfold callDeferred;refine FG trivial ?_;rcases h:(invoke d.target d.args).runT p w #[]with⟨r,es⟩;have h:=tE h;dsimp only;refine gLe.after ?_;split
 all_goals first|exact h|trivial|exact gLe.trans h (Em _ _ _ _ _ _) |exact gLe.trans h (vA _ _ _) |skip
 split <;>exact h
theorem U9 (p:Program)(V:Bool)(fr:Frame)(E:List Frame)(O:Option Dying)(w:World):gLe w (unwind p V fr E O w):=by
 unfold unwind;split
 split
 rename_i h;have h:=tE h;refine gLe.after ?_;split
 exact h;trivial;exact EU _ _ _ _ _ _;split
 trivial;split
 trivial;split
 exact aom _;split
 split
 exact aom _;split
 rename_i h;exact nf h;trivial;trivial;split
 exact yN _ _ _ _;trivial;split
 exact yO _ _ _ _ _ _ _;split
 rename_i h;have h:=tE h;refine gLe.after ?_;split
 exact gLe.trans h (yO _ _ _ _ _ _ _);trivial;trivial
theorem Yj (p:Program)(fr:Frame)(E:List Frame)(O:Option Dying)(g:Nat)(w:World):gLe w (early p fr E O g w):=by
 unfold early
 extract_lets refuse notYet there
 have hn:∀ w0:World,w.drawn<=w0.drawn->gLe w (notYet w0):=λw0 V=>by
  show gLe w (match w0.heap[g]? with|some (.pending c elem) =>_|_=>_);split
  exact V;trivial
 split
 grind
 split
 trivial
 extract_lets there
 have W:∀ w0:World,w.drawn<=w0.drawn->gLe w (there w0):=λw0 V=>V;split
 grind
 split
 grind
 split
 trivial;grind
 trivial;grind
 split
 grind
 split
 grind
 split
 rename_i h;exact hn _ (nf h);rename_i h;exact W _ (nf h);trivial
theorem yP (p:Program)(E:Bool)(fr:Frame)(O:List Frame)(V:Option Dying)(s:Sem Next)(w:World):gLe w (Go.stepG.apply p E fr O V s w):=by
 unfold Go.stepG.apply
 extract_lets go kind
 have hr:∃ r es,(if E=true then s.runT p w #[]else(s.run p w,#[]))=(r,es)/\w.drawn<=(afH r).drawn:=by
  split
  rcases h:s.runT p w #[]with⟨r,es⟩;exact⟨r,es,rfl,tE h⟩;exact⟨_,_,rfl,Mh p s w⟩
 obtain⟨r,es,X,h⟩:=hr;rw[X];dsimp only;refine gLe.after ?_;have W:∀ fr w0,w.drawn<=w0.drawn->gLe w (go fr w0):=λfr w0 Y=>Y;split
 all_goals first|exact h|trivial|exact W _ _ h|exact gLe.trans h (Em _ _ _ _ _ _) |exact gLe.trans h (vA _ _ _) |exact gLe.trans h (Yj _ _ _ _ _ _) |skip
 all_goals first|(refine FG (gLe.trans h (vA _ _ _)) ?_;exact h) |(split <;>first|exact h|trivial|exact W _ _ h)
theorem abt (p:Program)(O:Bool)(fr:Frame)(E:List Frame)(V:Option Dying)(w:World):gLe w (Go.stepG.oper p O fr E V w):=by
 unfold Go.stepG.oper;split
 trivial;split
 exact yP _ _ _ _ _ _ _;exact yP _ _ _ _ _ _ _
theorem TA{o:Option α}{a:GStep}{f:α->GStep}(h1:gLe w a)(h2:∀ x,gLe w (f x)):gLe w (o.elim a f):=by cases o;exact h1;exact h2 _
theorem abu (p:Program)(main W:Bool)(fr:Frame)(V:List Frame)(X:Option Dying)(w:World):gLe w (Go.stepG.exec p main W fr V X w):=by
 unfold Go.stepG.exec
 extract_lets go to lost leave
 have Y:∀ fr w0,w.drawn<=w0.drawn->gLe w (go fr w0):=λfr w0 h0=>h0;have hto:∀ k,gLe w (to k):=λk=>aom _;have O:∀ m,gLe w (lost m):=λ_=>trivial;have E:∀ j,gLe w (leave j):=λj=>by
  show gLe w (match fr.roundOf with|none=>_|some l=>_);split
  grind
  rcases h:(Instr.endRound _ j).runT p w #[]with⟨r,es⟩;have h:=tE h;dsimp only;refine gLe.after ?_;split
  exact gLe.trans h (yO _ _ _ _ _ _ _);trivial
 have hgo1:∀ fr,gLe w (go fr w):=λfr=>aom _
 clear_value to lost leave
 split
 all_goals first|exact E _|exact hto _|exact O _|trivial|exact TA (E _) hto|exact yP _ _ _ _ _ _ _|exact TA (O _) (λ_=>yP _ _ _ _ _ _ _) |skip
 grind
 rcases h:(Instr.enterLoop fr.fn fr.tmps _ _ _ fr.roundOf).runT p w #[]with⟨r,es⟩;have h:=tE h;dsimp only;refine gLe.after ?_;split
 exact gLe.trans h (yP _ _ _ _ _ _ _);trivial;rcases h:(Instr.endLoop _).runT p w #[]with⟨r,es⟩;have h:=tE h;dsimp only;refine gLe.after ?_;split
 exact Y _ _ h;exact Y _ _ h;trivial;refine FG (hto _) ?_;split
 rename_i h;exact Y _ _ (nf h);trivial;exact FG (abt _ _ _ _ _ _) (hgo1 _)
theorem Yk (p:Program)(O:Bool)(g:Goroutine)(w:World)(E:Bool):gLe w (Go.stepG p O g w E):=by
 unfold Go.stepG;obtain⟨fr,V,st,W,off⟩:=g;dsimp only;split
 exact afJ _ _ _ _;exact abu _ _ _ _ _ _ _;exact U9 _ _ _ _ _ _
def sLe (w:World):Stepped->Prop
 | .next m=>w.drawn<=m.world.drawn| .ended .. =>True
theorem sLe.trans{w':World}{s:Stepped}(h1:w.drawn<=w'.drawn)(h:sLe w' s):sLe w s:=by cases s <;>first|trivial|exact aoA h1 h
theorem TB{c:Prop}[Decidable c]{a b:Stepped}(h1:sLe w a)(h2:sLe w b):sLe w (if c then a else b):=g6
theorem TC (p:Program)(E:Array Goroutine)(rest:Rest)(w:World):sLe w (look p E rest w):=by
 unfold look;split
 extract_lets
 refine TB trivial ?_;split
 trivial
 extract_lets
 split
 rename_i h;have h:=nf h;exact h;trivial;trivial;trivial
theorem Mi{rest:Rest}{cases:Array CommCase}{w':World}(h:waitingAt rest cases w=some w'):w.drawn<=w'.drawn:=by
 grind [waitingAt]
theorem G1 (p:Program)(rest:Rest)(V:Array Goroutine)(i:Nat)(g:Goroutine)(cases:Array CommCase)(W:Bool)(O:CommShape)(w:World):sLe w (communicate p rest V i g cases W O w).1:=by
 unfold communicate
 extract_lets put illMade me other
 have E:∀ g V w0 ops,w.drawn<=w0.drawn->sLe w (put g V w0 ops).1:=λ_ _ _ _ h=>h;split
 trivial;split
 split
 split
 rename_i h;exact Mi h;trivial;simp_all;split
 trivial;rename_i h;have hw:=nf h;clear h
 extract_lets r
 split
 split
 rename_i h2;exact E _ _ _ _ (aoA hw (Yi h2));trivial;simp_all;simp_all
 extract_lets
 split
 simp_all;split
 rename_i h2;have X:=nf h2;exact E _ _ _ _ (aoA hw X);trivial;simp_all;simp_all;trivial
theorem KC (m:Machine)(k:Nat)(t:Timer)(a b:Nat):m.world.drawn<=(retime m k t a b).2.world.drawn:=by
 grind [retime,drain]
variable {m:Machine}
theorem RN{O:Machine}{op:TimerOp}(h:timerOp m op=.ok (v,O)):m.world.drawn<=O.world.drawn:=by
 have named:∀ (D:Nat) (V:Machine) E f,(∀ k t,D<=(f k t).2.world.drawn)->timerOp.named V E f=.ok (v,O)->D<=O.world.drawn:=λD V E f X h=>by
  grind [timerOp.named]
 unfold timerOp at h;split at h
 split at h
 cases h;exact aom _;grind
 exact named _ _ _ _ (λk t=>KC _ _ _ _ _) h;split at h
 rename_i m1 W;have h1:m.world.drawn<=m1.world.drawn:=by
  grind [timerOp.opened]
 exact aoA h1 (named m1.world.drawn _ _ _ (λk t=>KC _ _ _ _ _) h);cases h;cases h;exact aom _
theorem Yl (p:Program)(m:Machine)(i:Nat)(O:Bool):sLe m.world (Go.runT p m i O).1:=by
 unfold Go.runT
 extract_lets rest world
 split
 extract_lets wake fn pos s ops done
 have E:gLe m.world s:=Yk _ _ _ _ _;have hd:∀ r,(done r).1=r:=λr=>rfl
 clear_value s done
 split
 all_goals try rw[hd]
 trivial;split
 rename_i h;have:=G1 p rest ‹_› i ‹_› ‹_› ‹_› ‹_› ‹_›;rw[h]at this;exact sLe.trans E this;exact E;exact E;exact TB trivial E;exact E;exact sLe.trans E (TC _ _ _ _);exact E;exact E;split
 exact E;split
 rename_i h;simp only[endThrow,dieOf]at h;cases h;exact E;trivial;trivial;split
 rename_i h;exact aoA E (RN h);exact E;trivial;trivial
theorem Ym (p:Program)(m:Machine)(k:Nat):sLe m.world (serve p m k):=by
 unfold serve;split
 trivial;exact aom _
 extract_lets
 split
 trivial;exact aom _
def mLe (w:World):Move->Prop
 | .goroutine m _=>w.drawn<=m.world.drawn| .machine s _=>sLe w s
theorem mLe.trans{w':World}{s:Move}(h1:w.drawn<=w'.drawn)(h:mLe w' s):mLe w s:=by
 cases s;exact aoA h1 h;exact sLe.trans h1 h
theorem G3 (p:Program)(m:Machine):mLe m.world (askOn p m):=by
 unfold askOn
 extract_lets mono rs ds pick
 have E:∀ O:Machine,m.world.drawn<=O.world.drawn->mLe m.world (pick O):=λO V=>by
  show mLe m.world (match (choose (.sched rs.length)).run p O.world with| .halt _ w=>_| .ok k world=>_);split
  trivial;rename_i h;have h1:=nf h;split
  exact aoA V h1;split
  trivial;rename_i h2;have h2:=nf h2;exact aoA V (aoA h1 h2)
 clear_value pick rs ds
 split
 trivial;rename_i h;have hw:=nf h;clear h
 extract_lets m1
 split
 exact sLe.trans hw (Ym p _ _);cases rs with
 |nil=>
  dsimp only;split
  exact hw;split
  exact hw;split <;>trivial
 |cons r rs=>
  dsimp only;split
  grind
  split
  trivial;rename_i h;have h2:=nf h;grind;rename_i h;have h2:=nf h;exact aoA hw h2;rename_i h;have h2:=nf h;exact E _ (aoA hw h2)
theorem O2 (p:Program)(m:Machine):mLe m.world (ask p m):=by
 unfold ask;split
 split
 trivial;rename_i h;have hw:=nf h;have:=TC p m.gs m.rest ‹World›;split
 rename_i E h2;rw[h2]at this;exact mLe.trans (aoA hw this) (G3 p _);rename_i e h2;exact sLe.trans hw this;rename_i h;have hw:=nf h;exact mLe.trans hw (G3 p _);exact G3 p m
theorem abv (p:Program)(m:Machine):mLe m.world (move p m):=by
 unfold move;split
 split
 exact aom _;trivial;split
 split
 exact aom _;exact O2 p _;exact O2 p m
theorem abw (p:Program)(m:Machine):sLe m.world (step p m):=by
 unfold step stepT;have:=abv p m;split
 rename_i h;rw[h]at this;exact sLe.trans this (Yl p _ _ _);rename_i h;rw[h]at this;exact this
theorem O3{E:Machine}(h:Steps p m E):m.world.drawn<=E.world.drawn:=by
 obtain⟨n,hn⟩:=h;induction n generalizing m with
 |zero=>grind [runN]
 |succ n V=>
  simp only[runN]at hn;have:=abw p m;cases O:step p m with
  |next m1=>
   rw[O]at hn this;exact aoA this (V hn)
  |ended o w=>grind
theorem O4{P:Program}{f:FuncId}{args:Array Value}{R:Ending->World->Prop}(h:Calls P f args w R):Calls P f args w λe w'=>R e w'/\(e≠ .outgrown->w.drawn<=w'.drawn):=by
 intro cs;obtain⟨e,w',fr,hr,hc,V,O⟩:=h cs;refine⟨e,w',fr,⟨hr,λE=>?_⟩,hc,V,O⟩;cases e with
 |returned v=>exact O3 (p:=P) hc|panicked c=>exact O3 (p:=P) hc|outgrown=>grind
end Go.Sx
end
