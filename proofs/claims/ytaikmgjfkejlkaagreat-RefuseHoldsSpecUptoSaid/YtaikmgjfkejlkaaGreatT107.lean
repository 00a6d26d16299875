/- Part of the proof of the law RefuseHoldsSpec (the Upto form). -/
import Derived.Test.YtaikmgjfkejlkaaGreatT106
import Derived.Shelf.SlSortCmp.NoneTotal
set_option linter.all false
set_option maxHeartbeats 4000000
set_option maxRecDepth 100000
section
namespace Go.Sx
open Go.Proofs Tryz
abbrev SV.u (n:Nat):SV:=.v (.int .u64 (n:Int))
def CL (a:List (Nat×(FI)))(b:List (Nat×(List SV->List Ob->Option atB)))(Y:List SV->Res->Option auL):Cons:=⟨mkP a,mkO b,Y⟩
variable {ps:List (Nat×(FI))}{os:List (Nat×(List SV->List Ob->Option atB))}{Y:List SV->Res->Option auL}
def apK:(CL ps os Y).p=mkP ps:=(rfl)
def apL:(CL ps os Y).o=mkO os:=(rfl)
def apM:(CL ps os Y).y=Y:=(rfl)
attribute[go_sem]apK apL apM
def GK{P:Program}{E:List (Nat×(FI))}{O:List (Nat×(List SV->List Ob->Option atB))}(a:∀ x∈E,P0 P x.1 x.2)(b:∀ x∈O,atA P x.1 x.2)(V:YOk P Y):atj P (CL E O Y):=⟨Tp E a,Tq O b,V⟩
def C90:List SV->List Ob->Option atB:=λl h=>noH h ((pU λn=>pU λd=>pE { α:=Unit,pre:=True,post:=λ_=>True,res:=λ_=>.ret (.fn 336 [] [.ptr 0 0,.ptr 1 0]) [.cells [.v (.int .u64 n)],.cells [.v (.int .u64 d)]]}) l)
theorem ag6:atA prog 309 C90:=by
 have hG:atj prog (mkG [] []):=qF (by simp) (by simp);refine qE mixed aC hG (fn:=f309) (c:=aa f309) kr kr kr kr λl o O h V=>?_;obtain⟨rfl,h⟩:=U3 h;obtain⟨n,l0,rfl,E⟩:=NN h;obtain⟨d,l1,rfl,h1⟩:=NN E;obtain⟨rfl,rfl⟩:=zH h1;refine⟨nbl rfl,L0,by unfold aa f309;simp[ak,and_self],?_⟩;unfold aa f309;simp only[go_sem,true_imp_iff,Nat.reduceBEq,true_and];refine⟨(),_,_,[0,1],rfl,?_⟩;simp only[go_sem,Nat.reduceBEq,Nat.reduceLeDiff,true_and,and_true];exact⟨rfl,rfl⟩
def D1:Nat->Nat->Nat->List Nat
 |0,n,d=>if n=0 then []else [n,d]|f+1,n,d=>if n=0 then []else n::(if n % max d 1=0 then [d]else D1 f d (n % max d 1))
def t_ (f n d:Nat):List (List SV):=(D1 f n d).map λx=>[SV.u x]
theorem ZD (f d:Nat):t_ f 0 d=[]:=by cases f <;>rfl
theorem ZE {f n d:Nat}(hn:n≠0)(V:d<=f):∃ T,t_ f n d=[SV.u n]::T/\(n % max d 1=0->T=[[SV.u d]])/\(n % max d 1≠0->∃ O,T=t_ O d (n % max d 1)/\n % max d 1<=O/\n % max d 1<d):=by
 cases f with
 |zero=>
  have hd:d=0:=XM
  subst hd;refine⟨[[SV.u 0]],by simp[t_,D1,hn],λ_=>rfl,λh=>?_⟩;exfalso;apply h;simp[Nat.mod_one]
 |succ f=>
  by_cases E:n % max d 1=0
  exact⟨[[SV.u d]],by simp[t_,D1,hn,E],λ_=>rfl,λh=>absurd E h⟩;refine⟨t_ f d (n % max d 1),by simp[t_,D1,hn,E],λh=>absurd h E,λ_=>⟨f,rfl,?_⟩⟩;have hlt:n % max d 1<max d 1:=ar8 _ XM;omega
theorem ZF (n d:Nat):((n:Int).tmod (if(d:Int) <1 then 1 else(d:Int)))=((n % max d 1:Nat):Int):=by
 have e:(if(d:Int) <1 then(1:Int)else(d:Int))=((max d 1:Nat):Int):=by split <;>omega
 rw[e];rfl
open Classical in
theorem ag7 (n0 E:Nat):CK prog 336 (λy=>[y,.ptr 1 0,.ptr 2 0]) [.cells [SV.u n0],.cells [SV.u E]] (t_ E n0 E):=by
 refine U4 (λr hr hy=>?_) (λargs w=>by kernel_rfl);have hG:atj prog (CL [] [] (itY (t_ E n0 E) r)):=GK (by simp) (by simp) hy;refine⟨λl h=>if l=[.os 0,.ptr 1 0,.ptr 2 0]/\h=[.ab (r 1),.cells [SV.u n0],.cells [SV.u E]]then some { α:=Nat,pre:=True,post:=λj=>j=0\/j=(t_ E n0 E).length+1,res:=λj=>.ret (.tup []) [.ab (r j),.dead,.dead]}else none,
  ?_,_,if_pos ⟨rfl,rfl⟩,trivial,λj hj=>⟨_,j,_,rfl,hj⟩⟩
 refine qE mixed aC hG (fn:=f336) (c:=aa f336) kr kr kr kr λl o con h hp=>?_;split at h
 rename_i hlo;obtain⟨rfl,rfl⟩:=hlo;cases h;refine⟨nbl rfl,λid st=>bif Nat.beq id 0 then some { α:=Nat×Bool,pre:=lk 0 st.t=.os 0/\lk 1 st.t=.ptr 1 0/\lk 2 st.t=.ptr 2 0/\st.h=[.ab (r 1),.cells [SV.u n0],.cells [SV.u E]],post:=λj=>j.1=0\/j.1=(t_ E n0 E).length+1,ex:=λj=>bif j.2 then .ret else .normal,out:=λj=>⟨[],[.ab (r j.1),.dead,.dead]⟩:at8}else none,?_,?_⟩;refine zG mixed aC hG kr λst lc hC hp=>?_;simp[go_sem,Nat.reduceBEq,aqd]at hC;subst hC;have⟨t,h⟩:=st;obtain⟨h0,h1,h2,rfl⟩:=hp;refine⟨Nat×Nat×Nat×Nat,λx=>⟨[(0,.os 0),(1,.ptr 1 0),(2,.ptr 2 0)],[.ab (r (x.1+1)),.cells [SV.u x.2.2.1],.cells [SV.u x.2.2.2]]⟩,λx=>x.2.2.2<=x.2.1/\(t_ E n0 E).drop x.1=t_ x.2.1 x.2.2.1 x.2.2.2/\x.1<=(t_ E n0 E).length,λx=>x.2.2.2,(0,E,n0,E),[0,1,2],⟨aqb _,rfl,aqq _⟩,aqb _,?_,?_⟩;simp only[go_sem,h0,h1,h2];decide;rintro⟨k,f,n,d⟩ ⟨hf,O,hk⟩;refine⟨L0,_,by simp[ak,and_self],λ_ _ q=>q,?_⟩;simp only[go_sem,NQ hr,true_imp_iff,ZF,aqy,false_imp_iff,Nat.reduceBEq,Nat.reduceLeDiff,true_and];have Y:∀ (l:List (List SV)) (j:Nat),l=(t_ E n0 E).drop k->(t_ E n0 E)[k+j]? =l[j]?:=λl j e=>by rw[e,asu]
 have V:(t_ f n d).length=(t_ E n0 E).length - k:=by rw[<-O,arM]
 refine⟨λhn=>?_,λhn=>?_⟩;have X:n≠0:=by simpa using hn
 have⟨T,e1,e2,e3⟩:=ZE X hf;have hT:(t_ E n0 E).drop (k+1)=T:=by rw[<-asY,O,e1];rfl
 have W:=Y _ 0 O.symm;rw[e1]at W;have hk1:k+1<=(t_ E n0 E).length:=by
  have:=(aqe.1 W).1;omega
 refine⟨W,⟨λ_=>⟨by split <;>omega,rfl,λh2=>?_,λh2=>?_⟩,λh2=>?_⟩,?_⟩;have h3:n % max d 1=0:=by
  have:=eq_of_beq h2;omega
 have hT2:=e2 h3;have hl2:(t_ E n0 E).length=k+2:=by
  have:=congrArg List.length hT;rw[hT2]at this;simp at this;omega
 refine⟨?_,⟨(k+1+2,true),[0,1,2],.inr (by rw[hl2]),rfl,⟨rfl,rfl,rfl⟩,by simp[Kr,Nm,Hl,aq,dT,xT,yT]⟩,⟨(0,true),[0,1,2],.inl rfl,rfl,⟨rfl,rfl,rfl⟩,by simp[Kr,Nm,Hl,aq,dT,xT,yT]⟩⟩;have:(t_ E n0 E)[k+1]? =T[0]?:=by rw[<-hT,asu]
 rw[this,hT2];rfl;have h3:n % max d 1≠0:=λe=>by rw[e]at h2;simp at h2
 have⟨f',m1,m2,m3⟩:=e3 h3;exact⟨(k+1,f',d,n % max d 1),[0,1,2],⟨m2,by rw[hT,m1],hk1⟩,m3,⟨rfl,rfl,rfl⟩,by simp[Kr,Nm,Hl,aq,xT,yT,nth,ox,ren,wkL,UA]⟩;exact absurd hn (by rw[h2];simp);exact⟨(0,false),[0,1,2],.inl rfl,rfl,⟨rfl,rfl,rfl⟩,by simp[Kr,Nm,Hl,aq,dT,xT,yT]⟩;have X:n=0:=by simpa using hn
 subst X;rw[ZD]at V;simp at V;exact⟨by simpa using hn,(k+1,false),[0,1,2],.inr XM,rfl,⟨rfl,rfl,rfl⟩,by simp[Kr,Nm,Hl,aq,dT,xT,yT]⟩;unfold aa f336;simp only[go_sem,Nat.reduceBEq,true_and];rintro⟨j,b⟩ hj;cases b;exact⟨j,_,_,[0,1,2],hj,rfl,aqb 3,by simp only[go_sem];decide⟩;exact⟨j,_,_,[0,1,2],hj,rfl,aqb 3,by simp only[go_sem];decide⟩;cases h
def Qw (n d:Nat):Nat:=if d=0 then n else(D1 d n d).getLastD d
def C83:FI:=pU λn=>pU λd=>pE (.det (0<=n/\0<=d) (SV.u (Qw n.toNat d.toNat)))
theorem ZG:P0 prog 274 C83:=by
 have hG:atj prog (mkG [] [(309,C90)]):=qF (by simp) (by
  intro x E;simp[aqg,aq_,or_false]at E;rcases E with rfl;exact ag6)
 refine YM false mixed aC hG (fn:=f274) (c:=aa f274) kr kr kr kr λl con h O=>?_;obtain⟨n',l0,rfl,h0⟩:=NN h;obtain⟨d',l1,rfl,h1⟩:=NN h0;obtain⟨rfl,rfl⟩:=zH h1;have⟨hn,hd⟩:=O;obtain⟨n,rfl⟩:=asK hn;obtain⟨d,rfl⟩:=asK hd;refine⟨nbl rfl,λid st=>bif Nat.beq id 0 then some { α:=Unit,pre:=st.h=[.cells [SV.u d],.cells [SV.u n],.cells [SV.u d]]/\lk 12 st.t=.fn 336 [] [.ptr 1 0,.ptr 2 0]/\lk 4 st.t=.ptr 0 0,post:=λ_=>True,ex:=λ_=>.normal,out:=λ_=>⟨[(4,.ptr 0 0)],[.cells [SV.u ((D1 d n d).getLastD d)],.dead,.dead]⟩:at8}else none,?_,?_⟩;unfold aa f274;simp only[ak,true_and,and_true];refine Qs mixed aC hG (by decide) (by decide) kr kr λst lc hC O=>?_;simp only[go_sem,Nat.reduceBEq,aqd]at hC;subst hC;have⟨t,h⟩:=st;obtain⟨rfl,V,h4⟩:=O;refine⟨336,[.ptr 1 0,.ptr 2 0],t_ d n d,Nat,[(4,.ptr 0 0)],λv=>[.cells [SV.u v],.dead,.dead],λk v=>v=((D1 d n d).take k).getLastD d,λ_ _=>False,d,[0,1,2],V,rfl,aqb _,?_,ag7 n d,?_,?_,λ_ h=>h.elim,λ_ _ h=>h.elim⟩;show Sub [0,1,2] 3 ⟨t,[.cells [SV.u d],.dead,.dead]⟩ ⟨[(4,.ptr 0 0)],[.cells [SV.u d],.dead,.dead]⟩;simp only[go_sem,h4];decide;intro k y args X Y;unfold t_ at X;rw[are,arn]at X;obtain⟨x,E,rfl⟩:=X;refine⟨rfl,L0,_,λl=>by simp[ak],λl=>by simp[ak],λ_ _ q=>q,?_⟩;show exec ts _ L0 _ ⟨[(13,SV.u x),(4,SV.ptr 0 0)],[.cells [SV.u y],.dead,.dead]⟩ _;simp only[go_sem,true_imp_iff,Nat.reduceBEq,Nat.reduceLeDiff,true_and];refine⟨x,[0,1,2],?_,aqb 3,?_⟩;have hlt:=(aqe.1 E).1;have W:=(aqe.1 E).2;show x=((D1 d n d).take (k+1)).getLastD d;rw[aqD hlt,W];simp[List.getLastD_concat];simp only[go_sem];decide;intro y Y;refine⟨(),[0,1,2],trivial,rfl,aqb _,?_⟩;have hy:y=(D1 d n d).getLastD d:=by rw[Y,List.take_of_length_le (by simp[t_])]
 subst hy;simp only[go_sem];decide;unfold aa f274;simp only[go_sem,C90,true_imp_iff,Nat.reduceBEq,Nat.reduceLeDiff,Nat.reduceAdd,true_and];refine⟨λh=>?_,λh _ _=>?_⟩;have h':d=0:=by simpa using h
 simp[Qw,h'];have h':d≠0:=by simpa using h
 simp[Qw,h']
attribute [go_sem] C83
end Go.Sx
end
section
namespace Go.Sx
open Go.RowKit
inductive aud:St->St->Prop where
 |refl (st:St):aud st st
 |cell {st:St} {t:List (Nat×SV)} {h:List Ob} {i j:Nat} {l:List SV} (o:Ob):aud st ⟨t,h⟩->aq h i=.cells l->l[j]? =some (.v (.slice none 0 0))->((∃ k,o=.row k [])\/∃ k,o=.atH k [])->aud st ⟨t,cO h i (.cells (l.set j (.os h.length)))++[o]⟩
 |slot {st:St} {t:List (Nat×SV)} {h:List Ob} {i:Nat} (o:Ob):aud st ⟨t,h⟩->lk i t=.v (.slice none 0 0)->((∃ k,o=.row k [])\/∃ k,o=.atH k [])->aud st ⟨(i,.os h.length)::t,h++[o]⟩
 |avm {st:St} {t:List (Nat×SV)} {h:List Ob} {i:Nat} (k:Tag):aud st ⟨t,h⟩->lk i t=.e0->aud st ⟨(i,.os h.length)::t,h++[.row k []]⟩
section
variable {P:Program}{F:Nat->Prop}{w0:Bs}{N:Nat}
theorem Mc (h:List Ob)(o:Ob):aq (h++[o]) h.length=o:=by simp_all [vg,aq]
variable {h:List Ob}{a:Act}{w:World}{t:List (Nat×SV)}
theorem U7{own:Own}(hr:ati F w0 N own ⟨t,h⟩ a w)(o:Ob)(ho:(∃ k,o=.row k [])\/∃ k,o=.atH k []):
  ∃ l5,ati F w0 N l5 ⟨t,h++[o]⟩ a w/\(∀ id hd,own id=some hd->l5 id=some hd)/\l5 h.length=some { v:=.slice none 0 0}:=by
 let l5:Own:=λid=>if id=h.length then some { v:=.slice none 0 0}else own id
 have V:∀ id hd,own id=some hd->l5 id=some hd:=λid hd e=>by
  have:id≠h.length:=by have:=hr.hp.dom id hd e;grind
  grind
 have E:∀ id hd b,l5 id=some hd->b∈hd.bs->own id=some hd:=λid hd b e O=>by
  grind
 have hc:atS F own w F l5 w:=⟨λid hd e=>⟨hd,V id hd e,.refl _⟩,λb _ hn=>⟨by
  rintro (hf| ⟨id,hd,e,O⟩);exact hn (.inl hf);exact hn (.inr ⟨id,hd,E id hd b e O,O⟩),rfl⟩⟩
 refine⟨l5,⟨hr.size,hr.defers,⟨λid hd e=>?_,hr.hp.atu,λid hd b e O=>hr.hp.apart id hd b (E id hd b e O) O,λi j hi hj b X W b1 b2=>hr.hp.inj i j hi hj b (E i hi b X b1) (E j hj b W b2) b1 b2,λid hd b e O=>hr.hp.lt id hd b (E id hd b e O) O,λid hd=>?_⟩,
  ⟨λid hd e=>?_,λid hd b e O=>hr.fr.base id hd b (E id hd b e O) O,hr.fr.os,hr.fr.tape,hr.fr.output,hr.fr.size,hr.fr.block⟩,λt=>(hr.slots t).carry hc⟩,V,by simp[l5]⟩
 simp[aqk,aqc];by_cases hi:id=h.length
 omega;simp[l5,if_neg hi]at e;have:=hr.hp.dom id hd e;grind;by_cases hi:id<h.length
 rw[vg,if_pos hi]at hd |-;have⟨hd',X,W⟩:=hr.hp.obs id hd;exact⟨hd',V id hd' X,W.carry hc (aqb _) λ_ _=>rfl⟩;by_cases Y:id=h.length
 subst Y;rw[Mc];refine⟨_,by simp[l5];rfl,?_⟩;rcases ho with⟨k,rfl⟩ | ⟨k,rfl⟩;exact .inl ⟨none,rfl,rfl,rfl⟩;exact .inl ⟨rfl,rfl,rfl,rfl⟩;rw[ve (by simp;omega)]at hd;cases hd;have⟨hd',X,W⟩:=hr.fr.ids id hd e;grind
theorem ZH{own:Own}(hr:ati F w0 N own ⟨t,h⟩ a w)(k:Tag)(ad:Option Addr):
  ∃ l5,ati F w0 N l5 ⟨t,h++[.row k []]⟩ a w/\(∀ id hd,own id=some hd->l5 id=some hd)/\l5 h.length=some { v:=.slice ad 0 0}:=by
 let l5:Own:=λid=>if id=h.length then some { v:=.slice ad 0 0}else own id
 have V:∀ id hd,own id=some hd->l5 id=some hd:=λid hd e=>by
  have:id≠h.length:=by have:=hr.hp.dom id hd e;grind
  grind
 have E:∀ id hd b,l5 id=some hd->b∈hd.bs->own id=some hd:=λid hd b e O=>by
  grind
 have hc:atS F own w F l5 w:=⟨λid hd e=>⟨hd,V id hd e,.refl _⟩,λb _ hn=>⟨by
  rintro (hf| ⟨id,hd,e,O⟩);exact hn (.inl hf);exact hn (.inr ⟨id,hd,E id hd b e O,O⟩),rfl⟩⟩
 refine⟨l5,⟨hr.size,hr.defers,⟨λid hd e=>?_,hr.hp.atu,λid hd b e O=>hr.hp.apart id hd b (E id hd b e O) O,λi j hi hj b X W b1 b2=>hr.hp.inj i j hi hj b (E i hi b X b1) (E j hj b W b2) b1 b2,λid hd b e O=>hr.hp.lt id hd b (E id hd b e O) O,λid hd=>?_⟩,
  ⟨λid hd e=>?_,λid hd b e O=>hr.fr.base id hd b (E id hd b e O) O,hr.fr.os,hr.fr.tape,hr.fr.output,hr.fr.size,hr.fr.block⟩,λt=>(hr.slots t).carry hc⟩,V,by simp[l5]⟩
 simp[aqk,aqc];by_cases hi:id=h.length
 omega;simp[l5,if_neg hi]at e;have:=hr.hp.dom id hd e;grind;by_cases hi:id<h.length
 rw[vg,if_pos hi]at hd |-;have⟨hd',X,W⟩:=hr.hp.obs id hd;exact⟨hd',V id hd' X,W.carry hc (aqb _) λ_ _=>rfl⟩;by_cases Y:id=h.length
 subst Y;rw[Mc];refine⟨_,by simp[l5];rfl,?_⟩;exact .inl ⟨ad,rfl,rfl,rfl⟩;rw[ve (by simp;omega)]at hd;cases hd;have⟨hd',X,W⟩:=hr.fr.ids id hd e;grind
theorem aud.rel{st st':St}(hn:aud st st'){own:Own}(hr:ati F w0 N own st a w):∃ l5,ati F w0 N l5 st' a w:=by
 induction hn with
 |refl=>grind
 | @slot t h i o _ V Y W=>
  have⟨own1,h1⟩:=W;have⟨X1,h2,h3,h4⟩:=U7 h1 o Y;refine⟨X1,h2.size,h2.defers,h2.hp,h2.fr,λu=>?_⟩;rw[t9];split
  rename_i e;subst e;have:=h1.slots i;rw[V]at this;rw[cV this];exact .os (hd:= { v:=.slice none 0 0}) h4 rfl;exact h2.slots u
 | @avm t h i k _ V W=>
  have⟨own1,h1⟩:=W;have E:=h1.slots i;rw[V]at E;generalize hv:a.tmps.getD i undef=v at E;cases E with
  | @e0 ad=>
   have⟨X1,h2,h3,h4⟩:=ZH h1 k ad;refine⟨X1,h2.size,h2.defers,h2.hp,h2.fr,λu=>?_⟩;rw[t9];split
   rename_i e;subst e;rw[hv];exact .os (hd:= { v:=.slice ad 0 0}) h4 rfl;exact h2.slots u
 | @cell t h i j l o _ hc V Y W=>
  have⟨own1,h1⟩:=W;have⟨X1,h2,h3,h4⟩:=U7 h1 o Y;have hlt:i<h.length:=by
   grind [ve]
  have X:(cO h i (.cells (l.set j (.os h.length)))).length=h.length:=by rw[cJ,if_pos hlt]
  refine⟨X1,h2.size,h2.defers,⟨λid hd e=>?_,h2.hp.atu,h2.hp.apart,h2.hp.inj,h2.hp.lt,λid hd=>?_⟩,h2.fr,h2.slots⟩;have:=h2.hp.dom id hd e;grind;have O:=h2.hp.obs id;by_cases hi:id<h.length
  rw[vg,if_pos (by rw[X];exact hi)]at hd |-;rw[vg,if_pos hi]at O;rw[dM]at hd |-;by_cases hii:i=id
  subst hii;rw[if_pos rfl]at hd |-;rw[hc]at O;have⟨hd',e1,b,cs,ty,m1,m2,m3,m4,m5⟩:=O rfl;refine⟨hd',e1,b,cs,ty,m1,m2,m3,XN,λj' s E=>?_⟩;rw[arT]at E;by_cases hj:j=j'
  subst hj;rw[if_pos rfl]at E;split at E
  cases E;have:=m5 j _ V;rw[cV this];exact .os (hd:= { v:=.slice none 0 0}) h4 rfl;cases E;grind
  grind
  simp_all [vg,if_neg]
end
section
variable {P:Program}{F:Nat->Prop}{w0:Bs}{ro:Option Nat}{nd:Nat}{ts:Tis}{G:Cons}{L:yS}{N:Nat}
theorem xm {ts:Tis}{G:Cons}{ro:Option Nat}{N:Nat}(hm:P.follows .mixedOrders=true)(hts:ts.ok P)(hG:atj P G){id:Nat}{c:Code}(hc:db N c=true){C:St->Option at8}
  (h:∀ st V,C st=some V->V.pre->∃ (σ:Type) (D:σ->St) (I:σ->Prop) (m:σ->Nat) (x0:σ) (Y:St) (js:List Nat),I x0/\aud st Y/\st.h.length<=(D x0).h.length/\Sub js st.h.length Y (D x0)/\
   ∀ x,I x->∃ L Qx,ak P ro N L c/\(∀ e st',Qx e st'->xV D I m st.h.length x id (λe st'=>∃ r js,V.post r/\V.ex r=e/\st.h.length<=(V.out r).h.length/\Sub js st.h.length st' (V.out r)) e st')/\exec ts G L c (D x) Qx):mB P ro N id (.loop c) C:=by
 intro nd F w0 st V hC hpre own a w hr;have⟨σ,D,I,m,x0,Y,js,h1,hN,h2,h3,h4⟩:=h st V hC hpre;have⟨ownN,hrN⟩:=hN.rel hr;refine wpIn_mono (L7 hm hts hG hc D I m st.h.length hr.auA _ h4 x0 h1 _ a w (hrN.sub h3 hr.auA h2)) ?_;intro e a' w' hq;have key:∀ ex O l5 st',ati O w0 N l5 st' a' w'->(∃ r js,V.post r/\V.ex r=ex/\st.h.length<=(V.out r).h.length/\Sub js st.h.length st' (V.out r))->∃ X1 E,ati O w0 N X1 E a' w'/\∃ r,V.post r/\ex=V.ex r/\E=V.out r:=by
  rintro ex O l5 st' hst ⟨r,js,W,X,q3,q4⟩;exact⟨_,_,hst.sub q4 hr.auA q3,r,W,X.symm,rfl⟩
 cases e with
 |normal=>have⟨O,l5,st',h0,k1,k2⟩:=hq;have⟨X1,E,W,X⟩:=key _ O l5 st' k1 k2;exact⟨O,X1,E,h0,W,X⟩|exit j=>have⟨O,l5,st',h0,k1,k2⟩:=hq;have⟨X1,E,W,X⟩:=key _ O l5 st' k1 k2;exact⟨O,X1,E,h0,W,X⟩|ret=>have⟨O,l5,st',h0,k1,k2⟩:=hq;have⟨X1,E,W,X⟩:=key _ O l5 st' k1 k2;exact⟨O,X1,E,h0,W,X⟩
 |panic ch=>
  have⟨x,O,l5,st',h0,k1,k2,k3⟩:=hq;have⟨X1,E,W,X⟩:=key _ O l5 st' k1 k2;exact⟨x,O,X1,E,h0,W,X,k3⟩
 |_=>exact hq.elim
end
section
variable {P:Program}{ρ σ:Type}
def qG (a:St)(b:Nat)(c:St):Prop:= ∃ js,b<=a.h.length/\Sub js b c a
def NS {E b:St}{a:Nat}(c:List Nat)(d:a<=E.h.length)(e:Sub c a b E):qG E a b:=⟨c,d,e⟩
def xn (D:Nat->σ->St)(n0 k:Nat)(st:St):ρ⊕σ->Prop
 | .inl _=>False| .inr s'=>qG (D (k+1) s') n0 st
def wO (exE:ρ->Ex)(Y2:ρ->St)(n0:Nat)(e:Ex)(st:St):ρ⊕σ->Prop
 | .inl x=>exE x=e/\qG (Y2 x) n0 st| .inr _=>False
def cE (step:Nat->σ->ρ⊕σ)(n:Nat)(exE:ρ->Ex)(Y2:ρ->St)(atw:σ->St)(D:Nat->σ->St)(n0 id k:Nat)(s:σ):Ex->St->Prop
 | .normal,st=>k<n/\xn D n0 k st (step k s)| .exit j,st=>bif Nat.beq j id then(n<=k->qG (atw s) n0 st)/\(k<n->wO exE Y2 n0 .normal st (step k s))else k<n/\wO exE Y2 n0 (.exit j) st (step k s)| .ret,st=>k<n/\wO exE Y2 n0 .ret st (step k s)| .pan x,st=>k<n/\wO exE Y2 n0 (.pan x) st (step k s)
variable {step:Nat->σ->ρ⊕σ}{n n0 id k j:Nat}{exE:ρ->Ex}{Y2:ρ->St}{atw:σ->St}{D:Nat->σ->St}{s s':σ}{st:St}{x:Value}{e:Ex}{y:ρ}
@[go_sem] def ajO:= @xn.eq_2
@[go_sem] def alH:= @wO.eq_1
@[go_sem] def ajP:= @cE.eq_1
@[go_sem] def aom:= @cE.eq_2
@[go_sem] def apN:= @cE.eq_3
@[go_sem] def apP:= @cE.eq_4
@[congr] theorem aeQ {r r':ρ⊕σ}(h:r=r'):xn D n0 k st r=xn D n0 k st r':=by rw[h]
@[congr] theorem alI {st st':St}{e e':Ex}(h:st=st')(he:e=e'):cE step n exE Y2 atw D n0 id k s e st=cE step n exE Y2 atw D n0 id k s e' st':=by rw[h,he]
theorem WI {ts:Tis}{G:Cons}{ro:Option Nat}{N:Nat}(hm:P.follows .mixedOrders=true)(hts:ts.ok P)(hG:atj P G){id:Nat}{c:Code}(hc:db N c=true){C:St->Option at8}
  (h:∀ st lc,C st=some lc->lc.pre->∃ (ρ σ:Type) (pre:Prop) (step:Nat->σ->ρ⊕σ) (p:Nat->σ->Prop) (n:Nat) (s0:σ) (exE:ρ->Ex) (Y2:ρ->St) (atw:σ->St) (D:Nat->σ->St) (O:St) (js:List Nat),
   lc=LC pre (aj step n 0 s0) exE Y2 atw/\okI step p n 0 s0/\aud st O/\st.h.length<=(D 0 s0).h.length/\Sub js st.h.length O (D 0 s0)/\
   ∀ k s,k<=n->(k<n->p k s)->∃ L,ak P ro N L c/\exec ts G L c (D k s) (cE step n exE Y2 atw D st.h.length id k s)):mB P ro N id (.loop c) C:=by
 refine xm hm hts hG hc λst lc hC hp=>?_;obtain⟨ρ,σ,pre,step,p,n,s0,exE,Y2,atw,D,O,js,rfl,h1,hN,h2,h3,h4⟩:=h st lc hC hp;refine⟨Nat×σ,λx=>D x.1 x.2,λx=>x.1<=n/\okI step p (n - x.1) x.1 x.2/\aj step (n - x.1) x.1 x.2=aj step n 0 s0,λx=>n - x.1,(0,s0),O,js,⟨aqq _,XM,by simp⟩,hN,h2,h3,?_⟩;rintro⟨k,s⟩ ⟨hk,hJ,E⟩;have⟨L,hl,hex⟩:=h4 k s hk (λhlt=>by
  rw[show n - k=(n - k - 1)+1 by omega]at hJ;exact hJ.1)
 refine⟨L,_,hl,?_,hex⟩;have W:∀ e st',k<n->wO exE Y2 st.h.length e st' (step k s)->∃ r js,(LC pre (aj step n 0 s0) exE Y2 atw).post r/\(LC pre (aj step n 0 s0) exE Y2 atw).ex r=e/\st.h.length<=((LC pre (aj step n 0 s0) exE Y2 atw).out r).h.length/\Sub js st.h.length st' ((LC pre (aj step n 0 s0) exE Y2 atw).out r):=by
  intro e st' hlt q;cases V:step k s with
  |inr s'=>rw[V]at q;exact q.elim
  |inl x=>
   rw[V]at q;have⟨q2,js,q3,q4⟩:=q;rw[show n - k=(n - k - 1)+1 by omega]at E;simp[aj,V]at E;exact⟨.inl x,js,E,q2,q3,q4⟩
 intro e st' X;cases e with
 |normal=>
  have⟨q1,q2⟩:=X;cases V:step k s with
  |inl x=>rw[V]at q2;exact q2.elim
  |inr s'=>
   rw[V]at q2;have⟨js,q3,q4⟩:=q2;rw[show n - k=(n - (k+1))+1 by omega]at E hJ;simp[aj,V]at E;exact⟨(k+1,s'),js,⟨q1,hJ.2 s' V,E⟩,XN,q3,q4⟩
 |exit j=>
  have Y:(bif Nat.beq j id then(n<=k->qG (atw s) st.h.length st')/\(k<n->wO exE Y2 st.h.length .normal st' (step k s))else k<n/\wO exE Y2 st.h.length (.exit j) st' (step k s)):=X;show bif Nat.beq j id then _ else _;cases hb:Nat.beq j id with
  |true=>
   rw[hb]at Y;by_cases hlt:k<n
   grind
   have⟨js,q3,q4⟩:=Y.1 XM;have hkn:k=n:=XM
   subst hkn;simp[ar0]at E;exact⟨.inr s,js,E,rfl,q3,q4⟩
  |false=>grind
 |ret=>exact W _ _ X.1 X.2|pan x=>exact W _ _ X.1 X.2
end
def fZ (p:Prop)(S:SV)(H:List Ob):atB:= { α:=Unit,pre:=p,post:=λ_=>True,res:=λ_=>.ret S H}
def ZI (n0:Nat)(S:SV)(H h:List Ob):Option SV->Prop
 |some s=>qG ⟨[(0,S)],H⟩ n0 ⟨[(0,s)],h⟩|none=>False
def U8 (n0:Nat)(rs:List ResultVar)(ts:Tis)(S:SV)(H:List Ob):Ex->St->Prop
 | .exit _,_=>False| .normal,st=>ZI n0 S H st.h (v_ (t7 ts st rs))| .ret,st=>ZI n0 S H st.h (v_ (t7 ts st rs))| .pan _,_=>False
section
variable {P:Program}{ts:Tis}{G:Cons}{n0:Nat}{S s:SV}{H h:List Ob}{rs:List ResultVar}{st:St}{x:Value}{j:Nat}
@[go_sem] def ajQ:= @ZI.eq_1
@[go_sem] def acV:= @U8.eq_2
@[go_sem] def ajR:= @U8.eq_3
@[go_sem high] theorem ag8 {p:Prop}{ids:List Nat}{d:Option Nat}{K:St->Prop}{Z:Value->St->Prop}:Cq ids d st K Z (some (fZ p S H))=(p/\Nk ids d st K Z (.ret S H)):=by
 show(p/\∀ r:Unit,True->Nk ids d st K Z (.ret S H))=_;simp
def hCR (t:Tag)(k:List t.T->Option atB):List Ob->Option atB
 | [.cells [.os 1],.row k' l] =>if h:k'=t then k (h▸l)else none|_=>none
theorem aon {t:Tag}{k:List t.T->Option atB}{h:List Ob}{c:atB}(E:hCR t k h=some c):∃ l,h=[.cells [.os 1],.row t l]/\k l=some c:=by
 unfold hCR at E;grind
open Classical in
noncomputable def pQ {α:Type 1}(X:SV)(k:List SV->Option α):List SV->Option α
 |s::r=>if s=X then k r else none| [] =>none
variable {α:Type 1}{X:SV}{k:List SV->Option α}{r:List SV}
@[go_sem] theorem awM:pQ X k (X::r)=k r:=by simp[pQ]
theorem H5{l:List SV}{c:α}(h:pQ X k l=some c):∃ r,l=X::r/\k r=some c:=by
 unfold pQ at h;grind
def pXR {α:Type 1}(t:Tag)(k:List t.T->List SV->Option α):List SV->Option α
 | .ep [.rs k' l] 0::r=>L_ t k r k' l|_=>none
@[go_sem] theorem apQ{t:Tag}{k:List t.T->List SV->Option α}{l:List t.T}:pXR t k (.ep [.rs t l] 0::r)=k l r:=by simp[pXR,L_]
theorem acW{t:Tag}{k:List t.T->List SV->Option α}{l:List SV}{c:α}(h:pXR t k l=some c):∃ x r,l=.ep [.rs t x] 0::r/\k x r=some c:=by
 unfold pXR at h;grind [L_]
theorem Qy (hm:P.follows .mixedOrders=true)(X:ts.ok P)(hG:atj P G){f:FuncId}{fn:Func}{c:Code}(hf:P.funcs[f]? =some fn)(hb:fn.body=some c)(V:(fn.name== "runtime.NumGoroutine")=false)
  (hc:db fn.ntmps c=true) {C:List SV->List Ob->Option atB}
  (h:∀ l o O,C l o=some O->∃ p S H,O=fZ p S H/\(p->l.length<=fn.ntmps/\∃ L,ak P none fn.ntmps L c/\exec ts G L c ⟨pZ 0 l,o⟩ (U8 o.length fn.results.toList ts S H))):atA P f C:=by
 refine H0 hm X hG hf hb V hc λl o O Y hp=>?_;obtain⟨p,S,H,rfl,h2⟩:=h l o O Y;have⟨h3,L,h4,h5⟩:=h2 hp;refine⟨h3,L,_,h4,λe st E=>?_,h5⟩;cases e with
 |normal=>
  change ZI _ _ _ _ _ at E;show Ho _ _ _ _;cases W:v_ (t7 ts st fn.results.toList)with
  |none=>rw[W]at E;exact E.elim|some s=>rw[W]at E;have⟨js,q1,q2⟩:=E;exact⟨(),S,H,js,trivial,rfl,q1,q2⟩
 |ret=>
  change ZI _ _ _ _ _ at E;show Ho _ _ _ _;cases W:v_ (t7 ts st fn.results.toList)with
  |none=>rw[W]at E;exact E.elim|some s=>rw[W]at E;have⟨js,q1,q2⟩:=E;exact⟨(),S,H,js,trivial,rfl,q1,q2⟩
 |exit j=>exact E.elim|pan x=>exact E.elim
end
end Go.Sx
end
section
namespace Go.Sx
attribute [go_sem] true_imp_iff false_imp_iff Bool.false_eq_true Int.toNat_natCast Int.toNat_zero true_and and_true and_self implies_true forall_const
theorem V0{p:Prop}(h:p:=by(with_reducible show _≠_);first|assumption|omega|(simp_all [cB,dY];done) |grind|fail):p:=h
def cl {p:Prop}(h:p:=by(first|done|(repeat' (first|with_reducible refine And.intro ?_ ?_|exact V0 |with_reducible intro _)) <;>(first|done|with_reducible exact Empty.elim ‹Empty› |with_reducible assumption|rfl|omega|assumption|(simp only[*,cond_true,cond_false,aqE,aqN,go_sem,Nat.reduceBEq,Nat.reduceLeDiff,Nat.reduceAdd,Nat.reduceSub,Nat.reduceMul,Int.reduceLE,Int.reduceLT,Int.reduceToNat,Int.reduceNeg,reduceCtorEq];done) |(simp only[*,cond_true,cond_false,aqE,aqN,go_sem,Nat.reduceBEq,Nat.reduceLeDiff,Nat.reduceAdd,Nat.reduceSub,Nat.reduceMul,Int.reduceLE,Int.reduceLT,Int.reduceToNat,Int.reduceNeg,reduceCtorEq];(repeat' (first|with_reducible refine And.intro ?_ ?_|exact V0 |with_reducible intro _)) <;>(first|done|assumption|rfl|omega|(simp_all [cB,dY];done))) |(simp_all [okI,cB,dY];done) |grind))):p:=h
def cl2 {p:Prop}(h:p:=by(first|done|(repeat' (first|with_reducible refine And.intro ?_ ?_|exact V0 |with_reducible intro _)) <;>(first|done|with_reducible exact Empty.elim ‹Empty› |with_reducible assumption|rfl|omega|assumption|(simp only[*,go_sem,Nat.reduceBEq,Nat.reduceLeDiff,Nat.reduceAdd,Nat.reduceSub,Nat.reduceMul,Int.reduceLE,Int.reduceLT,Int.reduceToNat,Int.reduceNeg,reduceCtorEq];done) |(simp_all [cB,dY];done)))):p:=h
inductive JL:List Nat->Prop
 |mk (l:List Nat):JL l
def jl (l:List Nat):JL l:=.mk l
variable {js:List Nat}
def fk{E st:St}{n0:Nat}(_:JL js)(h1:n0<=E.h.length:=by(first|(show _<=_;decide) |(simp only[*,go_sem,Nat.reduceBEq,Nat.reduceLeDiff,Nat.reduceAdd,Nat.reduceSub,Nat.reduceMul,Int.reduceLE,Int.reduceLT,Int.reduceToNat,Int.reduceNeg,reduceCtorEq];done) |(simp only[*,go_sem,Nat.reduceBEq,Nat.reduceLeDiff,Nat.reduceAdd,Nat.reduceSub,Nat.reduceMul,Int.reduceLE,Int.reduceLT,Int.reduceToNat,Int.reduceNeg,reduceCtorEq];(repeat' (first|with_reducible refine And.intro ?_ ?_|exact V0 |with_reducible intro _)) <;>(first|rfl|decide|assumption|omega|(simp_all [cB,dY];done)))))(h2:Sub js n0 st E:=by(first|(show _<=_;decide) |(simp only[*,go_sem,Nat.reduceBEq,Nat.reduceLeDiff,Nat.reduceAdd,Nat.reduceSub,Nat.reduceMul,Int.reduceLE,Int.reduceLT,Int.reduceToNat,Int.reduceNeg,reduceCtorEq];done) |(simp only[*,go_sem,Nat.reduceBEq,Nat.reduceLeDiff,Nat.reduceAdd,Nat.reduceSub,Nat.reduceMul,Int.reduceLE,Int.reduceLT,Int.reduceToNat,Int.reduceNeg,reduceCtorEq];(repeat' (first|with_reducible refine And.intro ?_ ?_|exact V0 |with_reducible intro _)) <;>(first|rfl|decide|assumption|omega|(simp_all [cB,dY];done))))):qG E n0 st:=NS js h1 h2
def fk2{E st:St}{n0:Nat}(_:JL js)(h1:n0<=E.h.length:=by(first|(show _<=_;decide) |(simp only[go_sem,Nat.reduceBEq,Nat.reduceLeDiff,Nat.reduceAdd,Nat.reduceSub,Nat.reduceMul,Int.reduceLE,Int.reduceLT,Int.reduceToNat,Int.reduceNeg,reduceCtorEq];(repeat' (first|with_reducible refine And.intro ?_ ?_|exact V0 |with_reducible intro _)) <;>(first|rfl|decide|assumption|omega|(simp_all [cB,dY];done)))))(h2:Sub js n0 st E:=by(first|(show _<=_;decide) |(simp only[go_sem,Nat.reduceBEq,Nat.reduceLeDiff,Nat.reduceAdd,Nat.reduceSub,Nat.reduceMul,Int.reduceLE,Int.reduceLT,Int.reduceToNat,Int.reduceNeg,reduceCtorEq];(repeat' (first|with_reducible refine And.intro ?_ ?_|exact V0 |with_reducible intro _)) <;>(first|rfl|decide|assumption|omega|(simp_all [cB,dY];done))))):qG E n0 st:=NS js h1 h2
variable {α:Type _}{p:α->Prop}
theorem Q1:∀ x∈([]:List α),p x:=λ_ h=>by cases h
theorem cgc{a:α}{l:List α}(h:p a)(t:∀ x∈l,p x):∀ x∈a::l,p x:=λx hx=>by
 rcases aqg.1 hx with rfl|hx;exact h;exact t x hx
attribute [go_sem] if_true
end Go.Sx
end
section
namespace Go.Sx
open Go.RowKit
open IntKind (i64)
section
variable {P:Program}
end
def okL {ρ σ τ:Type}(step:τ->σ->ρ⊕σ)(p:τ->σ->Prop):List τ->σ->Prop
 | [],_=>True|x::l,s=>p x s/\∀ s',step x s=.inr s'->okL step p l s'
def GL {ρ σ τ:Type}{step:τ->σ->ρ⊕σ}{p:τ->σ->Prop}:∀ (l:List τ) (s:σ),(∀ x∈l,∀ s,p x s)->okL step p l s
 | [],_,_=>trivial
 |x::l,s,h=>⟨h x (by simp) s,λs' _=>GL l s' λy hy=>h y (by simp[hy])⟩
section
variable {ρ σ τ:Type}
def rgN (T:List (Nat×SV))(H:σ->List Ob)(n0:Nat)(st:St):ρ⊕σ->Prop
 | .inl _=>False| .inr s'=>qG ⟨T,H s'⟩ n0 ⟨T,st.h⟩
def rgX (exE:ρ->Ex)(T:List (Nat×SV))(Hy:ρ->List Ob)(n0:Nat)(e:Ex)(st:St):ρ⊕σ->Prop
 | .inl y=>exE y=e/\qG ⟨T,Hy y⟩ n0 ⟨T,st.h⟩| .inr _=>False
def rgQ (step:τ->σ->ρ⊕σ)(exE:ρ->Ex)(T:List (Nat×SV))(H:σ->List Ob)(Hy:ρ->List Ob)(n0 id:Nat)(x:τ)(s:σ):Ex->St->Prop
 | .normal,st=>rgN T H n0 st (step x s)| .exit j,st=>rgX exE T Hy n0 (bif Nat.beq j id then .normal else .exit j) st (step x s)| .ret,st=>rgX exE T Hy n0 .ret st (step x s)| .pan _,_=>False
variable {step:τ->σ->ρ⊕σ}{exE:ρ->Ex}{T:List (Nat×SV)}{H:σ->List Ob}{Hy:ρ->List Ob}{n0 id j:Nat}{x:τ}{s s':σ}{y:ρ}{st:St}{e:Ex}
@[go_sem] def aoo:= @rgN.eq_2
@[go_sem] def aop:= @rgX.eq_1
@[go_sem] def ag9:= @rgQ.eq_1
@[go_sem] def aoq:= @rgQ.eq_3
@[go_sem] def alJ:= @rgQ.eq_2
variable {r r':ρ⊕σ}
@[congr] theorem ajS(h:r=r'):rgN T H n0 st r=rgN T H n0 st r':=by rw[h]
@[congr] theorem ajT{e e':Ex}(h:r=r')(he:e=e'):rgX exE T Hy n0 e st r=rgX exE T Hy n0 e' st r':=by rw[h,he]
end
section
variable {P:Program}{ts:Tis}{G:Cons}{N:Nat}
theorem uR (hm:P.follows .mixedOrders=true)(hts:ts.ok P)(hG:atj P G){id:Nat}{g:Operand}{Y:Array Tmp}{assign body:Code}{C:St->Option at8}
  (hpn:Y.toList.Nodup) (hpN:∀ p∈Y.toList,p<N) (hca:db N assign=true) (hcb:db N body=true)
  (h:∀ st lc,C st=some lc->lc.pre->∃ (f:FuncId) (caps:List SV) (τ ρ σ:Type) (l:List τ) (X:τ->List SV) (step:τ->σ->ρ⊕σ) (p:τ->σ->Prop) (pre:Prop) (s0:σ) (exE:ρ->Ex) (Y2:ρ->St) (atw:σ->St) (T:List (Nat×SV)) (H:σ->List Ob) (Hy:ρ->List Ob) (js:List Nat),
   raw st.t g=.fn f [] caps/\lc=LC pre (cS step l s0) exE Y2 atw/\okL step p l s0/\st.h.length<=(H s0).length/\Sub js st.h.length ⟨st.t,ww (lB st caps) st.h⟩ ⟨T,H s0⟩/\
   CK P f (λy=>y::caps.map (ren (Ts (lB st caps)) 3)) (Qr (lB st caps) st.h) (l.map X)/\
   (∀ x s,p x s->(X x).length=Y.size/\∃ L,(∀ l,ak P (some l) N L assign)/\(∀ l,ak P (some l) N L body)/\exec ts G L assign ⟨psT Y.toList (X x)++T,H s⟩ (λe st1=>e=.normal/\exec ts G L body st1 (rgQ step exE T H Hy st.h.length id x s)))/\
   (∀ s,qG (atw s) st.h.length ⟨T,H s⟩)/\∀ y,qG (Y2 y) st.h.length ⟨T,Hy y⟩):mB P none N id (.rangeFunc g Y assign body) C:=by
 refine Qs hm hts hG hpn hpN hca hcb λst lc hC hp=>?_;obtain⟨f,caps,τ,ρ,σ,l,X,step,p,pre,s0,exE,Y2,atw,T,H,Hy,js,h1,rfl,h2,h3,h4,h5,h6,h7,h8⟩:=h st lc hC hp;refine⟨f,caps,l.map X,σ⊕ρ,T,λz=>match z with| .inl s=>H s| .inr y=>Hy y,λk z=>match z with| .inl s=>cS step (l.drop k) s=cS step l s0/\okL step p (l.drop k) s| .inr _=>False,
  λe z=>match z with| .inl _=>False| .inr y=>cS step l s0=.inl y/\(match e with| .ret=>exE y=.ret| .exit j=>exE y=(bif Nat.beq j id then .normal else .exit j) |_=>False),.inl s0,js,h1,⟨rfl,h2⟩,h3,h4,h5,?_,?_,?_,?_⟩
 rintro k z args hk W;cases z with
 |inr y=>exact W.elim
 |inl s=>
  have⟨hrun,hok⟩:=W;rw[are,arn]at hk;obtain⟨x,hx,rfl⟩:=hk;have hd:l.drop k=x::l.drop (k+1):=by
   grind [List.drop_eq_getElem_cons]
  rw[hd]at hrun hok;have⟨hl,L,hla,hlb,hex⟩:=h6 x s hok.1;refine⟨hl,L,_,hla,hlb,?_,hex⟩;intro e st' E;have fin:∀ e',rgX exE T Hy st.h.length e' st' (step x s)->∃ y js,exE y=e'/\cS step l s0=.inl y/\st.h.length<=(Hy y).length/\Sub js st.h.length ⟨T,st'.h⟩ ⟨T,Hy y⟩:=by
   intro e' q;cases O:step x s with
   |inr s'=>rw[O]at q;exact q.elim
   |inl y=>
    rw[O]at q;have⟨q1,js,q2,q3⟩:=q;grind [cS]
  cases e with
  |normal=>
   change rgN T H st.h.length st' (step x s)at E;cases O:step x s with
   |inl y=>rw[O]at E;exact E.elim
   |inr s'=>
    rw[O]at E;have⟨js,q1,q2⟩:=E;simp[cS,O]at hrun;exact⟨.inl s',js,⟨hrun,hok.2 s' O⟩,q1,q2⟩
  |exit j=>
   have⟨y,js,q1,q2,q3,q4⟩:=fin _ E;exact⟨.inr y,js,⟨q2,q1⟩,q3,q4⟩
  |ret=>
   have⟨y,js,q1,q2,q3,q4⟩:=fin _ E;exact⟨.inr y,js,⟨q2,q1⟩,q3,q4⟩
  |pan x=>exact E.elim
 intro z W;cases z with
 |inr y=>exact W.elim
 |inl s=>
  have⟨js,q1,q2⟩:=h7 s;have:=W.1;rw[aq5,List.drop_length]at this;exact⟨.inr s,js,this,rfl,q1,q2⟩
 intro z V;cases z with
 |inl s=>exact V.elim
 |inr y=>
  have⟨js,q1,q2⟩:=h8 y;exact⟨.inl y,js,V.1.symm,V.2,q1,q2⟩
 intro j z V;cases z with
 |inl s=>exact V.elim
 |inr y=>
  have⟨js,q1,q2⟩:=h8 y;refine⟨.inl y,js,V.1.symm,?_,q1,q2⟩;have:=V.2;show exE y=_;rw[this];by_cases hj:j=id
  rw[if_pos hj];have hb:Nat.beq j id=true:=by rw[hj];exact atg id
  rw[hb];rfl;rw[if_neg hj];cases hb:Nat.beq j id with
  |true=>exact absurd (ap_ hb) hj|false=>rfl
end
section
variable {P:Program}{ρ σ τ:Type}
def BJ:Ob->Option Nat
 | .mi _ _ _ c=>c|_=>none
def nxC (step:τ->σ->ρ⊕σ)(l:List τ)(d:τ)(D:List Nat->Option Nat->σ->St)(n0:Nat)(left:List Nat)(s:σ)(st:St):Option Nat->Prop
 |some j=>j∈left/\xn (λ_ s'=>D (left.erase j) (some j) s') n0 0 st (step (l.getD j d) s)
 |none=>False
def exC (step:τ->σ->ρ⊕σ)(l:List τ)(d:τ)(exE:ρ->Ex)(Y2:ρ->St)(n0:Nat)(left:List Nat)(s:σ)(e:Ex)(st:St):Option Nat->Prop
 |some j=>j∈left/\wO exE Y2 n0 e st (step (l.getD j d) s)|none=>False
def cM (step:τ->σ->ρ⊕σ)(l:List τ)(d:τ)(exE:ρ->Ex)(Y2:ρ->St)(atw:σ->St)(D:List Nat->Option Nat->σ->St)(n0 id it:Nat)(left:List Nat)(s:σ):Ex->St->Prop
 | .normal,st=>nxC step l d D n0 left s st (BJ (aq st.h it))| .exit j,st=>bif Nat.beq j id then(left=[]->qG (atw s) n0 st)/\(left≠[]->exC step l d exE Y2 n0 left s .normal st (BJ (aq st.h it)))else exC step l d exE Y2 n0 left s (.exit j) st (BJ (aq st.h it))| .ret,st=>exC step l d exE Y2 n0 left s .ret st (BJ (aq st.h it))| .pan x,st=>exC step l d exE Y2 n0 left s (.pan x) st (BJ (aq st.h it))
variable {step:τ->σ->ρ⊕σ}{l:List τ}{d:τ}{n0 id it j:Nat}{exE:ρ->Ex}{Y2:ρ->St}{atw:σ->St}{D:List Nat->Option Nat->σ->St}{left:List Nat}{s s':σ}{st:St}{x:Value}{e:Ex}{y:ρ}{t:List (Nat×SV)}{h:List Ob}
@[go_sem] def aor:= @BJ.eq_1
@[go_sem] def alK:= @nxC.eq_1
@[go_sem] def alL:= @exC.eq_1
def ajU:cM step l d exE Y2 atw D n0 id it left s .normal ⟨t,h⟩=nxC step l d D n0 left s ⟨t,h⟩ (BJ (aq h it)):=(rfl)
def aos:cM step l d exE Y2 atw D n0 id it left s (.exit j) ⟨t,h⟩=bif Nat.beq j id then(left=[]->qG (atw s) n0 ⟨t,h⟩)/\(left≠[]->exC step l d exE Y2 n0 left s .normal ⟨t,h⟩ (BJ (aq h it)))else exC step l d exE Y2 n0 left s (.exit j) ⟨t,h⟩ (BJ (aq h it)):=(rfl)
def apR:cM step l d exE Y2 atw D n0 id it left s .ret ⟨t,h⟩=exC step l d exE Y2 n0 left s .ret ⟨t,h⟩ (BJ (aq h it)):=(rfl)
def apS:cM step l d exE Y2 atw D n0 id it left s (.pan x) ⟨t,h⟩=exC step l d exE Y2 n0 left s (.pan x) ⟨t,h⟩ (BJ (aq h it)):=(rfl)
attribute[go_sem]ajU aos apR apS
@[congr] theorem alM {st st':St}{e e':Ex}(h:st=st')(he:e=e'):cM step l d exE Y2 atw D n0 id it left s e st=cM step l d exE Y2 atw D n0 id it left s e' st':=by rw[h,he]
attribute [go_sem] Yb
def alN {t:List (Nat×SV)}{h:List Ob}{d:Nat}{s:SV}:St.put ⟨t,h⟩ (some d) s=⟨(d,s)::t,h⟩:=(rfl)
def alO {t:List (Nat×SV)}{h:List Ob}{s:SV}:St.put ⟨t,h⟩ none s=⟨t,h⟩:=(rfl)
attribute[go_sem]alN alO
theorem H6 (l:List τ)(d:τ):(List.range l.length).map (λj=>l.getD j d)=l:=by
 apply asL <;>grind
end
inductive auE where
 |slot (i:Nat) (o:Ob)
 |cell (i j:Nat) (o:Ob)
def ag_ (j n:Nat):Ob->Ob
 | .cells l=>.cells (l.set j (.os n))|o=>o
def aha (j:Nat):Ob->Prop
 | .cells l=>nth l j=some (.v (.slice none 0 0))|_=>False
def U9:Ob->Prop
 | .row _ l=>l=[]| .atH _ l=>l=[]|_=>False
def ZJ:SV->Ob->Prop
 | .v (.slice none 0 0),_=>True| .e0,.row _ _=>True|_,_=>False
def mkN:List auE->St->St
 | [],st=>st| .slot i o::r,⟨t,h⟩ =>mkN r ⟨(i,.os h.length)::t,h++[o]⟩| .cell i j o::r,⟨t,h⟩ =>mkN r ⟨t,cO h i (ag_ j h.length (aq h i))++[o]⟩
def okN:List auE->St->Prop
 | [],_=>True| .slot i o::r,⟨t,h⟩ =>ZJ (lk i t) o/\U9 o/\okN r ⟨(i,.os h.length)::t,h++[o]⟩| .cell i j o::r,⟨t,h⟩ =>aha j (aq h i)/\U9 o/\okN r ⟨t,cO h i (ag_ j h.length (aq h i))++[o]⟩
section
variable {i j m n:Nat}{o:Ob}{r:List auE}{t t2:List (Nat×SV)}{h h2:List Ob}{l:List SV}{ns:List auE}{js:List Nat}{st:St}
@[go_sem] def aot:= @mkN.eq_1
@[go_sem] def alP:= @mkN.eq_2
@[go_sem] def alQ:= @mkN.eq_3
@[go_sem] def aou:= @okN.eq_1
@[go_sem] def alR:= @okN.eq_2
@[go_sem] def alS:= @okN.eq_3
@[go_sem] theorem alT:ZJ (.v (.slice none 0 0)) o=True:=by rfl
@[go_sem] def aov:= @ZJ.eq_2
@[go_sem] def ahb:= @ag_.eq_1
@[go_sem] def ahc:= @aha.eq_1
theorem U_ (h:U9 o):(∃ k,o=.row k [])\/∃ k,o=.atH k []:=by
 cases o <;>simp only[U9]at h <;>simp_all
theorem ZK {s:SV}{o:Ob}(h:ZJ s o):s=.v (.slice none 0 0)\/(s=.e0/\∃ k l,o=.row k l):=by
 unfold ZJ at h;grind
theorem zI:∀ (ns:List auE) (E st:St),aud E st->okN ns st->aud E (mkN ns st)
 | [],_,_,hn,_=>hn
 | .slot i o::r,E,⟨t,h⟩,hn,hk=>by
  rcases ZK hk.1 with e| ⟨e,k,l,O⟩;exact zI r E _ (.slot o hn e (U_ hk.2.1)) hk.2.2;have h2:=hk.2.1;have V:=hk.2.2;rw[O]at h2 V;subst h2;subst O;exact zI r E _ (.avm k hn e) V
 | .cell i j o::r,E,⟨t,h⟩,hn,hk=>by
  refine zI r E _ ?_ hk.2.2;have h1:=hk.1;cases O:aq h i with
  |cells l=>
   rw[O]at h1;simp[aha,gW]at h1;exact .cell o hn O h1 (U_ hk.2.1)
  |_=>rw[O]at h1;exact h1.elim
def vv (m:Nat)(b:List auE)(c:List Nat)(a d:St):Prop:=a.h.length=m/\okN b a/\m<=d.h.length/\Sub c m (mkN b a) d
@[go_sem]def ajV:vv m ns js ⟨t,h⟩ ⟨t2,h2⟩=(h.length=m/\okN ns ⟨t,h⟩/\m<=h2.length/\Sub js m (mkN ns ⟨t,h⟩) ⟨t2,h2⟩):=(rfl)
end
def ag {P:Program}{ro:Option Nat}{N:Nat}(c:Code):ak P ro N L0 c:=by
 induction c with
 |seq a b E O=>exact⟨E,O⟩|cond _ a b E O=>exact⟨E,O⟩
 |block id c hc=>
  cases c with
  |loop c=>exact λ_ _ _ _ _ h=>by cases h
  |rangeFunc f V a b=>exact λ_ _ _ _ _ h=>by cases h
  |_=>exact hc
 |_=>trivial
section
variable {ρ σ τ:Type}
def pT:Nat->σ->Prop:=λ_ _=>True
@[go_sem]def apT {a:Nat->σ->ρ⊕σ}{n i:Nat}{s:σ}:okI a pT n i s=True:=eq_true (eu _ _ _ λ_ _ _ _=>trivial)
def LCR (m:Nat)(ns:List auE)(js:List Nat)(D:Nat->σ->St)(step:Nat->σ->ρ⊕σ)(p:Nat->σ->Prop)(n:Nat)(s0:σ)(B:Prop)(exE:ρ->Ex)(Y2:ρ->St)(st:St):at8:=
 LC (vv m ns js st (D 0 s0)/\B/\okI step p n 0 s0) (aj step n 0 s0) exE Y2 (D n)
def LCV (m:Nat)(ns:List auE)(js:List Nat)(D:Nat->σ->St)(step:Nat->σ->ρ⊕σ)(p:Nat->σ->Prop)(n:Nat)(s0:σ)(exE:ρ->Ex)(Y2:ρ->St)(st:St):at8:=
 LC (vv m ns js st (D 0 s0)/\okI step p n 0 s0/\∀ s,aj step n 0 s0≠ .inr s) (aj step n 0 s0) exE Y2 (D n)
variable {m:Nat}{ns:List auE}{js:List Nat}{step:Nat->σ->ρ⊕σ}{p:Nat->σ->Prop}{n:Nat}{s0:σ}{B:Prop}{exE:ρ->Ex}{Y2:ρ->St}{atw:σ->St}{st:St}{Q:Ex->St->Prop}
variable {D:Nat->σ->St}
@[go_sem]def ajW:un Q (some (LCR m ns js D step p n s0 B exE Y2 st))=((vv m ns js st (D 0 s0)/\B/\okI step p n 0 s0)/\(∀ x,aj step n 0 s0=.inl x->Q (exE x) (Y2 x))/\∀ s,aj step n 0 s0=.inr s->Q .normal (D n s)):=Qp
@[go_sem] theorem ajX:un Q (some (LCV m ns js D step p n s0 exE Y2 st))=((vv m ns js st (D 0 s0)/\okI step p n 0 s0/\∀ s,aj step n 0 s0≠ .inr s)/\∀ x,aj step n 0 s0=.inl x->Q (exE x) (Y2 x)):=by
 refine Qp.trans ?_;grind
def cR (step:Nat->σ->ρ⊕σ)(exE:ρ->Ex)(Y2:ρ->St)(D:Nat->σ->St)(m id k:Nat)(s:σ):Ex->St->Prop
 | .normal,st=>xn D m k st (step k s)| .exit j,st=>wO exE Y2 m (bif Nat.beq j id then .normal else .exit j) st (step k s)| .ret,st=>wO exE Y2 m .ret st (step k s)| .pan x,st=>wO exE Y2 m (.pan x) st (step k s)
def cZ (d:St)(m id:Nat):Ex->St->Prop
 | .exit j,st=>bif Nat.beq j id then qG d m st else False|_,_=>False
variable {D:Nat->σ->St}{id k j:Nat}{s:σ}{x:Value}{d:St}{e e':Ex}
@[go_sem] def ajY:= @cR.eq_1
@[go_sem] def aow:= @cR.eq_2
@[go_sem] def apU:= @cR.eq_3
@[go_sem] def apV:= @cR.eq_4
@[go_sem] def aox:= @cZ.eq_1
@[congr] theorem alU {st':St}(h:st=st')(he:e=e'):cR step exE Y2 D m id k s e st=cR step exE Y2 D m id k s e' st':=by rw[h,he]
@[congr] theorem alV {st':St}(h:st=st')(he:e=e'):cZ d m id e st=cZ d m id e' st':=by rw[h,he]
@[congr] theorem aeR {r r':ρ⊕σ}(h:r=r')(he:e=e'):wO exE Y2 m e st r=wO exE Y2 m e' st r':=by rw[h,he]
end
section
variable {P:Program}{ρ σ τ:Type}{ts:Tis}{G:Cons}{ro:Option Nat}{N:Nat}{id:Nat}{c:Code}{C:St->Option at8}{m:Nat}{ns:List auE}{js:List Nat}{step:Nat->σ->ρ⊕σ}{p:Nat->σ->Prop}{n:Nat}{s0:σ}{exE:ρ->Ex}{Y2:ρ->St}{D:Nat->σ->St}
theorem ZL {n0:Nat}(X:n0=m){s:σ}{k:Nat}(hlt:k<n){I:Nat×σ->Prop}{μ:Nat×σ->Nat}{atw:σ->St}{pre:Prop}{E:ρ⊕σ}
  (Y:∀ s',step k s=.inr s'->I (k+1,s')/\μ (k+1,s') <μ (k,s)) (hx:∀ x,step k s=.inl x->E=.inl x):
  ∀ e st',cR step exE Y2 D m id k s e st'->xV (λx:Nat×σ=>D x.1 x.2) I μ n0 (k,s) id (λe st'=>∃ r js,(LC pre E exE Y2 atw).post r/\(LC pre E exE Y2 atw).ex r=e/\n0<=((LC pre E exE Y2 atw).out r).h.length/\Sub js n0 st' ((LC pre E exE Y2 atw).out r)) e st':=by
 subst X;have O:∀ e st',wO exE Y2 n0 e st' (step k s)->∃ r js,(LC pre E exE Y2 atw).post r/\(LC pre E exE Y2 atw).ex r=e/\n0<=((LC pre E exE Y2 atw).out r).h.length/\Sub js n0 st' ((LC pre E exE Y2 atw).out r):=by
  intro e st' q;cases W:step k s with
  |inr s'=>rw[W]at q;exact q.elim
  |inl x=>
   rw[W]at q;have⟨q2,js,q3,q4⟩:=q;exact⟨.inl x,js,(hx x W).symm,q2,q3,q4⟩
 intro e st' V;cases e with
 |normal=>
  change xn D n0 k st' (step k s)at V;cases W:step k s with
  |inl x=>rw[W]at V;exact V.elim
  |inr s'=>
   rw[W]at V;have⟨js,q3,q4⟩:=V;have⟨i1,i2⟩:=Y s' W;exact⟨(k+1,s'),js,i1,i2,q3,q4⟩
 |exit j=>
  change wO exE Y2 n0 (bif Nat.beq j id then .normal else .exit j) st' (step k s)at V;show bif Nat.beq j id then _ else _;grind
 |ret=>exact O _ _ V|pan x=>exact O _ _ V
theorem D2 {B:Prop}(hm:P.follows .mixedOrders=true)(X:ts.ok P)(hG:atj P G)(hc:db N c=true)(hC:∀ st,C st=some (LCR m ns js D step p n s0 B exE Y2 st))
  (h:B->∀ k s,k<n->p k s->∃ L Q,ak P ro N L c/\(∀ e st',Q e st'->cR step exE Y2 D m id k s e st')/\exec ts G L c (D k s) Q)
  (h2:B->∀ s,∃ Q,(∀ e st',Q e st'->cZ (D n s) m id e st')/\exec ts G L0 c (D n s) Q):mB P ro N id (.loop c) C:=by
 refine xm hm X hG hc λst lc O hp=>?_;rw[hC st]at O;cases O;have⟨⟨hlen,hok,hle,hsub⟩,hB,h1⟩:=hp;refine⟨Nat×σ,λx=>D x.1 x.2,λx=>x.1<=n/\okI step p (n - x.1) x.1 x.2/\aj step (n - x.1) x.1 x.2=aj step n 0 s0,λx=>n - x.1,(0,s0),mkN ns st,js,⟨aqq _,XM,by simp⟩,zI ns st st (.refl _) hok,XN,XN,?_⟩;rintro⟨k,s⟩ ⟨hk,Y,E⟩;rcases ari k n with hlt|hge;rw[show n - k=(n - k - 1)+1 by omega]at E Y;have⟨L,Q,hl,hQ,hex⟩:=h hB k s hlt Y.1;have hI:∀ s',step k s=.inr s'->okI step p (n - (k+1)) (k+1) s'/\aj step (n - (k+1)) (k+1) s'=aj step n 0 s0:=λs' V=>by
  have:=Y.2 s' V;grind [aj]
 have hx:∀ x,step k s=.inl x->aj step n 0 s0=.inl x:=λx V=>by
  grind [aj]
 exact⟨L,Q,hl,λe st' q=>ZL hlen hlt (λs' V=>⟨⟨hlt,hI s' V⟩,XM⟩) hx e st' (hQ e st' q),hex⟩;have hkn:k=n:=XM
 subst hkn;have⟨Q,hQ,hex⟩:=h2 hB s;refine⟨L0,Q,ag c,λe st' q=>?_,hex⟩;have W:=hQ e st' q;simp[ar0]at E;cases e with
 |exit j=>
  change bif Nat.beq j id then qG (D k s) m st' else False at W;show bif Nat.beq j id then _ else _;cases hb:Nat.beq j id with
  |true=>
   rw[hb]at W;have⟨js,q3,q4⟩:=W;exact⟨.inr s,js,E,rfl,by rw[hlen];exact q3,by rw[hlen];exact q4⟩
  |false=>grind
 |_=>exact W.elim
theorem bG {B:Prop}(E:ts.ok P)(hG:atj P G)(O:∀ st,C st=some (LCR m ns js D step p n s0 B exE Y2 st))(M:Int)(X:B->M<9223372036854775808)
  (h:B->∀ k s,k<n->p k s->i64.wrap ((k:Int)+1)=((k+1:Nat):Int)->decide ((k:Int) <M)=true->∃ L,ak P ro N L c/\exec ts G L c (D k s) (cR step exE Y2 D m id k s))
  (h2:B->∀ s,decide ((n:Int) <M)=false->exec ts G L0 c (D n s) (cZ (D n s) m id))(V:P.follows .mixedOrders=true:=by exact mixed)(hc:db N c=true:=by kernel_rfl)(hn:n=M.toNat:=by rfl):mB P ro N id (.loop c) C:=by
 refine D2 V E hG hc O (λb k s hlt W=>?_) λb s=>⟨_,λ_ _ q=>q,h2 b s ?_⟩;have⟨L,h1,h3⟩:=h b k s hlt W (U6 (hn▸hlt) (X b)) (decide_eq_true XM);grind
 grind
theorem bX (E:Prop)(O:ts.ok P)(hG:atj P G)(W:∀ st,C st=some (LCR m ns js D step p n s0 True exE Y2 st))(M:Int)(hE:E->M<9223372036854775808)
  (h:E->∀ k s,k<n->p k s->i64.wrap ((k:Int)+1)=((k+1:Nat):Int)->decide ((k:Int) <M)=true->∃ L,ak P ro N L c/\exec ts G L c (D k s) (cR step exE Y2 D m id k s))
  (h2:E->∀ s,decide ((n:Int) <M)=false->exec ts G L0 c (D n s) (cZ (D n s) m id)) (Y:¬E->∀ k s,exec ts G L0 c (D k s) λ_ _=>False)(X:P.follows .mixedOrders=true:=by exact mixed)(hc:db N c=true:=by kernel_rfl)(hn:n=M.toNat:=by rfl):mB P ro N id (.loop c) C:=by
 by_cases V:E
 refine D2 X O hG hc W (λb k s hlt hp=>?_) λb s=>⟨_,λ_ _ q=>q,h2 V s ?_⟩;have⟨L,h1,h4⟩:=h V k s hlt hp (U6 (hn▸hlt) (hE V)) (decide_eq_true XM);grind
 grind
 exact D2 X O hG hc W (λ_ k s _ _=>⟨L0,_,ag c,λ_ _ q=>q.elim,Y V k s⟩) λ_ s=>⟨_,λ_ _ q=>q.elim,Y V n s⟩
theorem dH (W:ts.ok P)(hG:atj P G)(hC:∀ st,C st=some (LCV m ns js D step p n s0 exE Y2 st))
  (h:∀ k s,p k s->∃ L,ak P ro N L c/\exec ts G L c (D k s) (cR step exE Y2 D m id k s))(hm:P.follows .mixedOrders=true:=by exact mixed)(hc:db N c=true:=by kernel_rfl):mB P ro N id (.loop c) C:=by
 refine xm hm W hG hc λst lc O hp=>?_;rw[hC st]at O;cases O;have⟨⟨hlen,hok,hle,hsub⟩,h1,hno⟩:=hp;refine⟨Nat×σ,λx=>D x.1 x.2,λx=>x.1<=n/\okI step p (n - x.1) x.1 x.2/\aj step (n - x.1) x.1 x.2=aj step n 0 s0,λx=>n - x.1,(0,s0),mkN ns st,js,⟨aqq _,XM,by simp⟩,zI ns st st (.refl _) hok,XN,XN,?_⟩;rintro⟨k,s⟩ ⟨hk,X,E⟩;have hlt:k<n:=by
  rcases ari k n with h|h;exact h;have Y:k=n:=XM
  subst Y;simp[ar0,aj]at E;grind
 rw[show n - k=(n - k - 1)+1 by omega]at E X;have⟨L,hl,hex⟩:=h k s X.1;have hI:∀ s',step k s=.inr s'->okI step p (n - (k+1)) (k+1) s'/\aj step (n - (k+1)) (k+1) s'=aj step n 0 s0:=λs' V=>by
  have:=X.2 s' V;grind [aj]
 have hx:∀ x,step k s=.inl x->aj step n 0 s0=.inl x:=λx V=>by
  grind [aj]
 exact⟨L,_,hl,λe st' q=>ZL hlen hlt (λs' V=>⟨⟨hlt,hI s' V⟩,XM⟩) hx e st' q,hex⟩
theorem eE {α:Type}{l:List α}(h:l.length<=aD):(l.length:Int) <9223372036854775808:=by grind [aD]
end
section
universe u
variable {α:Type u}{G:List SV->α->Prop}{r:List SV}
theorem ax {k:Int->List SV->Option α}(h:∀ n l c,k n l=some c->G (.i n::l) c):∀ l c,pI k l=some c->G l c:=λl c hc=>by
 obtain⟨n,r,rfl,h1⟩:=YW hc;grind
theorem ya {k:Bool->List SV->Option α}(h:∀ n l c,k n l=some c->G (.v (.bool n)::l) c):∀ l c,pB k l=some c->G l c:=λl c hc=>by
 obtain⟨n,r,rfl,h1⟩:=agB hc;grind
variable {t:Tag}
theorem aZ{k:List t.T->List SV->Option α}(h:∀ n l c,k n l=some c->G (.rs t n::l) c):∀ l c,pR t k l=some c->G l c:=λl c hc=>by
 obtain⟨n,r,rfl,h1⟩:=agC hc;grind
variable {k:t.T->List SV->Option α}
theorem ap(h:∀ n l c,k n l=some c->G (.agg (cellsOf t n)::l) c):∀ l c,pD t k l=some c->G l c:=λl c hc=>by
 obtain⟨n,r,rfl,h1⟩:=NO hc;grind
theorem gO(h:∀ n l c,k n l=some c->G (.ep (cellsOf t n) 0::l) c):∀ l c,pX t k l=some c->G l c:=λl c hc=>by
 obtain⟨n,r,rfl,h1⟩:=YX hc;grind
theorem ahd{t2:Tag}{k:List (t.T×t2.T)->List SV->Option α}(h:∀ n l c,k n l=some c->G (.rm t t2 n::l) c):∀ l c,pM t t2 k l=some c->G l c:=λl c hc=>by
 obtain⟨n,r,rfl,h1⟩:=YY hc;grind
theorem am {c0:α}(h:G [] c0):∀ l c,pE c0 l=some c->G l c:=λl c hc=>by
 obtain⟨rfl,rfl⟩:=zH hc;exact h
end
end Go.Sx
end
section
namespace Go.Sx
variable {f:FuncId}{a:List SV}
def vz{p:Pk}{b:List SV}:AT [p] (.fn f a b)=DG p (.fn f a b):=(rfl)
def xp{b:List SV}:DG .o (.fn f a b)=.fn f a b:=(rfl)
end Go.Sx
end
section
namespace Go.Sx
open Go.RowKit
open IntKind (i64)
abbrev RF:= { r:Nat->Res // ∀ k,(r k).n=k}
def FP (a:List (List SV))(r:RF):List SV->Res->Option auL:=itY a r.1
@[go_sem]def aoy {b:List (List SV)}{r:RF}{k:Nat}{a:List SV}:FP b r a (r.1 (k+1))=some (Qq (b[k]? =some a) r.1 (k+2)):=NQ r.2 k a
section
variable {ρ σ:Type}
def lcy (pre:Prop)(run:ρ⊕σ)(exE:ρ->Ex)(Y2:ρ->St)(atw:σ->St)(stp:St):at8 where
 α:=Option (ρ⊕σ)
 pre:=pre
 post:=λ|none=>True|some r=>r=run
 ex:=λ|none=>.ret|some (.inl x) =>exE x|some (.inr _) =>.normal
 out:=λ|none=>stp|some (.inl x) =>Y2 x|some (.inr s) =>atw s
def LCY (m:Nat)(ns:List auE)(js:List Nat)(D:Nat->σ->St)(step:Nat->σ->ρ⊕σ)(p:Nat->σ->Prop)(n:Nat)(s0:σ)(B:Prop)(exE:ρ->Ex)(Y2:ρ->St)(stp st:St):at8:=
 lcy (vv m ns js st (D 0 s0)/\B/\okI step p n 0 s0) (aj step n 0 s0) exE Y2 (D n) stp
def acX (m:Nat)(ns:List auE)(js:List Nat)(D:Nat->σ->St)(step:Nat->σ->ρ⊕σ)(p:Nat->σ->Prop)(n:Nat)(s0:σ)(exE:ρ->Ex)(Y2:ρ->St)(stp st:St):at8:=
 lcy (vv m ns js st (D 0 s0)/\okI step p n 0 s0/\∀ s,aj step n 0 s0≠ .inr s) (aj step n 0 s0) exE Y2 (D n) stp
variable {m:Nat}{ns:List auE}{js:List Nat}{step:Nat->σ->ρ⊕σ}{p:Nat->σ->Prop}{n:Nat}{s0:σ}{B:Prop}{exE:ρ->Ex}{Y2:ρ->St}{stp st:St}{Q:Ex->St->Prop}{D:Nat->σ->St}
theorem Md {pre:Prop}{E:ρ⊕σ}{atw:σ->St}:un Q (some (lcy pre E exE Y2 atw stp))=(pre/\(∀ x,E=.inl x->Q (exE x) (Y2 x))/\(∀ s,E=.inr s->Q .normal (atw s))/\Q .ret stp):=by
 apply propext;constructor
 rintro⟨h1,h2⟩;exact⟨h1,λx V=>h2 (some (.inl x)) V.symm,λs O=>h2 (some (.inr s)) O.symm,h2 none trivial⟩;rintro⟨h1,h2,X,W⟩;refine⟨h1,λr hr=>?_⟩;match r,hr with
 |none,_=>exact W|some (.inl x),hr=>exact h2 x hr.symm|some (.inr s),hr=>exact X s hr.symm
@[go_sem]def ajZ:un Q (some (LCY m ns js D step p n s0 B exE Y2 stp st))=((vv m ns js st (D 0 s0)/\B/\okI step p n 0 s0)/\(∀ x,aj step n 0 s0=.inl x->Q (exE x) (Y2 x))/\(∀ s,aj step n 0 s0=.inr s->Q .normal (D n s))/\Q .ret stp):=Md
@[go_sem] theorem ahe:un Q (some (acX m ns js D step p n s0 exE Y2 stp st))=((vv m ns js st (D 0 s0)/\okI step p n 0 s0/\∀ s,aj step n 0 s0≠ .inr s)/\(∀ x,aj step n 0 s0=.inl x->Q (exE x) (Y2 x))/\Q .ret stp):=by
 refine Md.trans ?_;grind
def cY (step:Nat->σ->ρ⊕σ)(exE:ρ->Ex)(Y2:ρ->St)(D:Nat->σ->St)(stp:St)(m id k:Nat)(s:σ):Ex->St->Prop
 | .normal,st=>xn D m k st (step k s)| .exit j,st=>wO exE Y2 m (bif Nat.beq j id then .normal else .exit j) st (step k s)| .ret,st=>wO exE Y2 m .ret st (step k s)\/qG stp m st| .pan x,st=>wO exE Y2 m (.pan x) st (step k s)
variable {id k j:Nat}{s:σ}{x:Value}{e e':Ex}
@[go_sem] def aj0:= @cY.eq_1
@[go_sem] def aoz:= @cY.eq_2
@[go_sem] def apW:= @cY.eq_3
@[go_sem] def apX:= @cY.eq_4
@[congr] theorem alW {st':St}(h:st=st')(he:e=e'):cY step exE Y2 D stp m id k s e st=cY step exE Y2 D stp m id k s e' st':=by rw[h,he]
end
section
variable {P:Program}{ρ σ:Type}{ts:Tis}{G:Cons}{ro:Option Nat}{N:Nat}{id:Nat}{c:Code}{C:St->Option at8}{m:Nat}{ns:List auE}{js:List Nat}{step:Nat->σ->ρ⊕σ}{p:Nat->σ->Prop}{n:Nat}{s0:σ}{exE:ρ->Ex}{Y2:ρ->St}{D:Nat->σ->St}{stp:St}
theorem ZM {n0:Nat}(W:n0=m){s:σ}{k:Nat}(hlt:k<n){I:Nat×σ->Prop}{μ:Nat×σ->Nat}{atw:σ->St}{pre:Prop}{E:ρ⊕σ}
  (X:∀ s',step k s=.inr s'->I (k+1,s')/\μ (k+1,s') <μ (k,s)) (Y:∀ x,step k s=.inl x->E=.inl x):
  ∀ e st',cY step exE Y2 D stp m id k s e st'->xV (λx:Nat×σ=>D x.1 x.2) I μ n0 (k,s) id (λe st'=>∃ r js,(lcy pre E exE Y2 atw stp).post r/\(lcy pre E exE Y2 atw stp).ex r=e/\n0<=((lcy pre E exE Y2 atw stp).out r).h.length/\Sub js n0 st' ((lcy pre E exE Y2 atw stp).out r)) e st':=by
 subst W;have O:∀ e st',wO exE Y2 n0 e st' (step k s)->∃ r js,(lcy pre E exE Y2 atw stp).post r/\(lcy pre E exE Y2 atw stp).ex r=e/\n0<=((lcy pre E exE Y2 atw stp).out r).h.length/\Sub js n0 st' ((lcy pre E exE Y2 atw stp).out r):=by
  intro e st' q;cases V:step k s with
  |inr s'=>rw[V]at q;exact q.elim
  |inl x=>
   rw[V]at q;have⟨q2,js,q3,q4⟩:=q;exact⟨some (.inl x),js,(Y x V).symm,q2,q3,q4⟩
 intro e st' hq;cases e with
 |normal=>
  change xn D n0 k st' (step k s)at hq;cases V:step k s with
  |inl x=>rw[V]at hq;exact hq.elim
  |inr s'=>
   rw[V]at hq;have⟨js,q3,q4⟩:=hq;have⟨i1,i2⟩:=X s' V;exact⟨(k+1,s'),js,i1,i2,q3,q4⟩
 |exit j=>
  change wO exE Y2 n0 (bif Nat.beq j id then .normal else .exit j) st' (step k s)at hq;show bif Nat.beq j id then _ else _;grind
 |ret=>
  rcases hq with hq|hq;exact O _ _ hq;have⟨js,q3,q4⟩:=hq;exact⟨none,js,trivial,rfl,q3,q4⟩
 |pan x=>exact O _ _ hq
theorem vA {B:Prop}(Y:ts.ok P)(hG:atj P G)(hC:∀ st,C st=some (LCY m ns js D step p n s0 B exE Y2 stp st))(M:Int)(hB:B->M<9223372036854775808)
  (h:B->∀ k s,k<n->p k s->i64.wrap ((k:Int)+1)=((k+1:Nat):Int)->decide ((k:Int) <M)=true->∃ L,ak P ro N L c/\exec ts G L c (D k s) (cY step exE Y2 D stp m id k s))
  (h2:B->∀ s,decide ((n:Int) <M)=false->exec ts G L0 c (D n s) (cZ (D n s) m id))(hm:P.follows .mixedOrders=true:=by exact mixed)(hc:db N c=true:=by kernel_rfl)(hn:n=M.toNat:=by rfl):mB P ro N id (.loop c) C:=by
 refine xm hm Y hG hc λst lc V hp=>?_;rw[hC st]at V;cases V;have⟨⟨hlen,hok,hle,hsub⟩,hB',h1⟩:=hp;refine⟨Nat×σ,λx=>D x.1 x.2,λx=>x.1<=n/\okI step p (n - x.1) x.1 x.2/\aj step (n - x.1) x.1 x.2=aj step n 0 s0,λx=>n - x.1,(0,s0),mkN ns st,js,⟨aqq _,XM,by simp⟩,zI ns st st (.refl _) hok,XN,XN,?_⟩;rintro⟨k,s⟩ ⟨hk,hJ,E⟩;rcases ari k n with hlt|hge;rw[show n - k=(n - k - 1)+1 by omega]at E hJ;have⟨L,hl,O⟩:=h hB' k s hlt hJ.1 (U6 (hn▸hlt) (hB hB')) (decide_eq_true XM);have hI:∀ s',step k s=.inr s'->okI step p (n - (k+1)) (k+1) s'/\aj step (n - (k+1)) (k+1) s'=aj step n 0 s0:=λs' W=>by
  have:=hJ.2 s' W;grind [aj]
 have hx:∀ x,step k s=.inl x->aj step n 0 s0=.inl x:=λx W=>by
  grind [aj]
 exact⟨L,_,hl,λe st' q=>ZM hlen hlt (λs' W=>⟨⟨hlt,hI s' W⟩,XM⟩) hx e st' q,O⟩;have hkn:k=n:=XM
 subst hkn;have O:=h2 hB' s XN;refine⟨L0,_,ag c,λe st' X=>?_,O⟩;simp[ar0]at E;cases e with
 |exit j=>
  change bif Nat.beq j id then qG (D k s) m st' else False at X;show bif Nat.beq j id then _ else _;cases hb:Nat.beq j id with
  |true=>
   rw[hb]at X;have⟨js,q3,q4⟩:=X;exact⟨some (.inr s),js,E,rfl,by rw[hlen];exact q3,by rw[hlen];exact q4⟩
  |false=>grind
 |_=>exact X.elim
theorem Me (W:ts.ok P)(hG:atj P G)(hC:∀ st,C st=some (acX m ns js D step p n s0 exE Y2 stp st))
  (h:∀ k s,p k s->∃ L,ak P ro N L c/\exec ts G L c (D k s) (cY step exE Y2 D stp m id k s))(hm:P.follows .mixedOrders=true:=by exact mixed)(hc:db N c=true:=by kernel_rfl):mB P ro N id (.loop c) C:=by
 refine xm hm W hG hc λst lc O hp=>?_;rw[hC st]at O;cases O;have⟨⟨hlen,hok,hle,hsub⟩,h1,hno⟩:=hp;refine⟨Nat×σ,λx=>D x.1 x.2,λx=>x.1<=n/\okI step p (n - x.1) x.1 x.2/\aj step (n - x.1) x.1 x.2=aj step n 0 s0,λx=>n - x.1,(0,s0),mkN ns st,js,⟨aqq _,XM,by simp⟩,zI ns st st (.refl _) hok,XN,XN,?_⟩;rintro⟨k,s⟩ ⟨hk,X,E⟩;rcases ari k n with hlt|hge;rw[show n - k=(n - k - 1)+1 by omega]at E X;have⟨L,hl,hex⟩:=h k s X.1;have hI:∀ s',step k s=.inr s'->okI step p (n - (k+1)) (k+1) s'/\aj step (n - (k+1)) (k+1) s'=aj step n 0 s0:=λs' V=>by
  have:=X.2 s' V;grind [aj]
 have hx:∀ x,step k s=.inl x->aj step n 0 s0=.inl x:=λx V=>by
  grind [aj]
 exact⟨L,_,hl,λe st' q=>ZM hlen hlt (λs' V=>⟨⟨hlt,hI s' V⟩,XM⟩) hx e st' q,hex⟩;have Y:k=n:=XM
 subst Y;simp[ar0,aj]at E;grind
end
def xq (n:Nat):List Ob:=List.replicate n .dead
def Qz (items:List (List SV))(r:RF)(n:Nat):Ex->St->Prop
 | .normal,st=>qG ⟨[],.ab (r.1 0)::xq n⟩ (n+1) ⟨[],st.h⟩\/qG ⟨[],.ab (r.1 (items.length+1))::xq n⟩ (n+1) ⟨[],st.h⟩| .ret,st=>qG ⟨[],.ab (r.1 0)::xq n⟩ (n+1) ⟨[],st.h⟩\/qG ⟨[],.ab (r.1 (items.length+1))::xq n⟩ (n+1) ⟨[],st.h⟩|_,_=>False
section
variable {items:List (List SV)}{r:RF}{n:Nat}{st:St}{e e':Ex}
@[go_sem] def acY:= @Qz.eq_1
@[go_sem] def aj1:= @Qz.eq_2
@[congr]def aeS {st':St}(h:st=st')(he:e=e'):Qz items r n e st=Qz items r n e' st':=by rw[h,he]
def aoA:xq 0=[]:=(rfl)
def aoB:xq 1=[.dead]:=(rfl)
def aoC:xq 2=[.dead,.dead]:=(rfl)
def aoD:xq 3=[.dead,.dead,.dead]:=(rfl)
def aoE:xq 4=[.dead,.dead,.dead,.dead]:=(rfl)
attribute[go_sem]aoA aoB aoC aoD aoE
end
def QA {js:List Nat}{n0:Nat}{h h':List Ob}(q:Sub js n0 ⟨[],h⟩ ⟨[],h'⟩):Sub js n0 ⟨[(0,.tup [])],h⟩ ⟨[(0,.tup [])],h'⟩:=by
 refine⟨q.1,?_,q.2.2⟩;exact⟨⟨rfl,rfl⟩,trivial⟩
open Classical in
def D3 {P:Program}{ts:Tis}{G:RF->Cons}(hm:P.follows .mixedOrders=true)(hts:ts.ok P){f:FuncId}{fn:Func}{c:Code}(hf:P.funcs[f]? =some fn)(hb:fn.body=some c)(E:(fn.name== "runtime.NumGoroutine")=false)(hc:db fn.ntmps c=true)(hr:fn.results.toList=[])
  {items:List (List SV)} {W:SV->List SV} {V:List Ob} {n:Nat} (hn:V.length=n)
  (h:∀ r:RF,YOk P (FP items r)->atj P (G r)/\(W (.os 0)).length<=fn.ntmps/\∃ L,ak P none fn.ntmps L c/\exec ts (G r) L c ⟨pZ 0 (W (.os 0)),.ab (r.1 1)::V⟩ (Qz items r n))
  (he:∀ (args:Array Value) (w:World),(callFunc f args).run P w=.ok (.enter f args) w):CK P f W V items:=by
 refine U4 (λO hr0 hy=>?_) he;have⟨hG,h1,L,h2,h3⟩:=h ⟨O,hr0⟩ hy;refine⟨λl o=>if l=W (.os 0)/\o=.ab (O 1)::V then some { α:=Bool,pre:=True,post:=λ_=>True,res:=λb=>.ret (.tup []) (.ab (O (if b then items.length+1 else 0))::xq n)}else none,?_,_,if_pos ⟨rfl,rfl⟩,trivial,λb _=>⟨_,_,_,rfl,XN⟩⟩;refine H0 hm hts hG hf hb E hc λl o con hC _=>?_;split at hC
 rotate_left
 cases hC;rename_i Y;obtain⟨rfl,rfl⟩:=Y;cases hC;refine⟨h1,L,_,h2,λe st X=>?_,h3⟩;have key:∀ st:St,(qG ⟨[],.ab (O 0)::xq n⟩ (n+1) ⟨[],st.h⟩\/qG ⟨[],.ab (O (items.length+1))::xq n⟩ (n+1) ⟨[],st.h⟩)->Ho (Ob.ab (O 1)::V).length { α:=Bool,pre:=True,post:=λ_=>True,res:=λb=>.ret (.tup []) (.ab (O (if b then items.length+1 else 0))::xq n)} (v_ (t7 ts st fn.results.toList)) st.h:=λst q=>by
  rw[hr];rcases q with⟨js,q1,q2⟩ | ⟨js,q1,q2⟩;exact⟨false,_,_,js,trivial,rfl,XN,by rw[aqc,hn];exact QA q2⟩;exact⟨true,_,_,js,trivial,rfl,XN,by rw[aqc,hn];exact QA q2⟩
 cases e with
 |normal=>exact key st X|ret=>exact key st X|exit j=>exact X.elim|pan x=>exact X.elim
section
variable {ρ σ τ:Type}
def D4 {step:τ->σ->ρ⊕σ}:∀ {a b:List τ} {s s':σ},cS step a s=.inr s'->cS step (a++b) s=cS step b s'
 | [],_,_,_,h=>by grind [cS]
 |x::a,b,s,s',h=>by
  simp[aqB,cS]at h |-;cases E:step x s with
  |inl y=>grind|inr s1=>rw[E]at h;exact D4 h
def QB {step:τ->σ->ρ⊕σ}{p:τ->σ->Prop}:∀ {a b:List τ} {s s':σ},cS step a s=.inr s'->okL step p (a++b) s->okL step p b s'
 | [],_,_,_,h,E=>by grind [cS]
 |x::a,b,s,s',h,E=>by
  simp[cS]at h E;cases O:step x s with
  |inl y=>grind|inr s1=>rw[O]at h;exact QB h (E.2 s1 O)
def LCP (m:Nat)(ns:List auE)(js:List Nat)(D:List Nat->Option Nat->σ->St)(step:τ->σ->ρ⊕σ)(p:τ->σ->Prop)(l:List τ)(s0:σ)(exE:ρ->Ex)(Y2:ρ->St)(atw:σ->St)(st:St):at8 where
 α:=ρ⊕σ
 pre:=vv m ns js st (D (List.range l.length) none s0)/\∀ L,L.Perm l->okL step p L s0
 post:=λr=>∃ L,L.Perm l/\cS step L s0=r
 ex:=λ| .inl x=>exE x| .inr _=>.normal
 out:=λ| .inl x=>Y2 x| .inr s=>atw s
variable {m:Nat}{ns:List auE}{js:List Nat}{step:τ->σ->ρ⊕σ}{p:τ->σ->Prop}{l:List τ}{s0:σ}{exE:ρ->Ex}{Y2:ρ->St}{atw:σ->St}{st:St}{Q:Ex->St->Prop}{D:List Nat->Option Nat->σ->St}
@[go_sem] theorem aj2:un Q (some (LCP m ns js D step p l s0 exE Y2 atw st))=((vv m ns js st (D (List.range l.length) none s0)/\∀ L,L.Perm l->okL step p L s0)/\∀ L,L.Perm l->(∀ x,cS step L s0=.inl x->Q (exE x) (Y2 x))/\∀ s,cS step L s0=.inr s->Q .normal (atw s)):=by
 apply propext;constructor
 rintro⟨h1,h2⟩;exact⟨h1,λL hL=>⟨λx hx=>h2 (.inl x) ⟨L,hL,hx⟩,λs hs=>h2 (.inr s) ⟨L,hL,hs⟩⟩⟩;rintro⟨h1,h2⟩;refine⟨h1,λr ⟨L,hL,hr⟩ =>?_⟩;cases r with
 |inl x=>exact(h2 L hL).1 x hr|inr s=>exact(h2 L hL).2 s hr
variable {P:Program}{ts:Tis}{G:Cons}{ro:Option Nat}{N id:Nat}{c:Code}{C:St->Option at8}
theorem QC (d:τ)(it:Nat)(hm:P.follows .mixedOrders=true)(hts:ts.ok P)(hG:atj P G)(hc:db N c=true)(hC:∀ st,C st=some (LCP m ns js D step p l s0 exE Y2 atw st))
  (h:∀ left cur s,(∀ j,j∈left->j<l.length/\p (l.getD j d) s)->∃ L,ak P ro N L c/\exec ts G L c (D left cur s) (cM step l d exE Y2 atw D m id it left s)):mB P ro N id (.loop c) C:=by
 refine xm hm hts hG hc λst lc hC' hp=>?_;rw[hC st]at hC';cases hC';have⟨⟨hlen,hok,hle,hsub⟩,hO⟩:=hp;subst hlen;have V:∀ q:List Nat,q.Perm (List.range l.length)->(q.map λj=>l.getD j d).Perm l:=λq hq=>by
  have:=hq.map (λj=>l.getD j d)
  rwa[H6]at this
 refine⟨List Nat×Option Nat×σ,λx=>D x.1 x.2.1 x.2.2,λx=>∃ q:List Nat,(q++x.1).Perm (List.range l.length)/\cS step (q.map λj=>l.getD j d) s0=.inr x.2.2,λx=>x.1.length,(List.range l.length,none,s0),mkN ns st,js,⟨[],.refl _,rfl⟩,zI ns st st (.refl _) hok,hle,hsub,?_⟩;rintro⟨left,cur,s⟩ ⟨q,hq,X⟩;have Y:∀ j,j∈left->(q++j::left.erase j).Perm (List.range l.length):=λj hj=>((List.perm_cons_erase hj).symm.append_left q).trans hq;have hp0:∀ j,j∈left->j<l.length/\p (l.getD j d) s:=λj hj=>by
  refine⟨arW.1 (hq.mem_iff.1 (aro _ hj)),?_⟩;have:=hO _ (V _ (Y j hj));rw[ar7]at this;exact(QB X this).1
 have⟨L,hl,hex⟩:=h left cur s hp0;refine⟨L,_,hl,?_,hex⟩;have E:∀ e st' o,exC step l d exE Y2 st.h.length left s e st' o->∃ r js,(LCP st.h.length ns js D step p l s0 exE Y2 atw st).post r/\(LCP st.h.length ns js D step p l s0 exE Y2 atw st).ex r=e/\st.h.length<=((LCP st.h.length ns js D step p l s0 exE Y2 atw st).out r).h.length/\Sub js st.h.length st' ((LCP st.h.length ns js D step p l s0 exE Y2 atw st).out r):=by
  intro e st' o z;cases o with
  |none=>exact z.elim
  |some j=>
   have⟨hj,z⟩:=z;cases hs:step (l.getD j d) s with
   |inr s'=>rw[hs]at z;exact z.elim
   |inl x=>
    rw[hs]at z;have⟨q2,js2,q3,q4⟩:=z;refine⟨.inl x,js2,⟨_,V _ (Y j hj),?_⟩,q2,q3,q4⟩;simp_all [D4,cS]
 intro e st' O;cases e with
 |normal=>
  change nxC step l d D st.h.length left s st' (BJ (aq st'.h it))at O;cases ho:BJ (aq st'.h it)with
  |none=>rw[ho]at O;exact O.elim
  |some j=>
   rw[ho]at O;have⟨hj,O⟩:=O;cases hs:step (l.getD j d) s with
   |inl x=>rw[hs]at O;exact O.elim
   |inr s'=>
    rw[hs]at O;have⟨js2,q3,q4⟩:=O;refine⟨(left.erase j,some j,s'),js2,⟨q++[j],?_,?_⟩,?_,q3,q4⟩;grind
    simp_all [D4,cS];grind
 |exit j=>
  have W:(bif Nat.beq j id then(left=[]->qG (atw s) st.h.length st')/\(left≠[]->exC step l d exE Y2 st.h.length left s .normal st' (BJ (aq st'.h it)))else exC step l d exE Y2 st.h.length left s (.exit j) st' (BJ (aq st'.h it))):=O;show bif Nat.beq j id then _ else _;cases hb:Nat.beq j id with
  |true=>
   rw[hb]at W;by_cases hlt:left=[]
   have⟨js2,q3,q4⟩:=W.1 hlt;refine⟨.inr s,js2,⟨_,V q XN,X⟩,rfl,q3,q4⟩;exact E _ _ _ (W.2 hlt)
  |false=>
   rw[hb]at W;exact E _ _ _ W
 |ret=>exact E _ _ _ O|pan x=>exact E _ _ _ O
end
def fkY {E st:St}{n0:Nat}{js:List Nat}(_:JL js)(h1:n0<=E.h.length:=by(first|(show _<=_;decide) |(simp only[*,go_sem,Nat.reduceBEq,Nat.reduceLeDiff,Nat.reduceAdd,Nat.reduceSub,Nat.reduceMul,Int.reduceLE,Int.reduceLT,Int.reduceToNat,Int.reduceNeg,reduceCtorEq];done) |(simp only[*,go_sem,Nat.reduceBEq,Nat.reduceLeDiff,Nat.reduceAdd,Nat.reduceSub,Nat.reduceMul,Int.reduceLE,Int.reduceLT,Int.reduceToNat,Int.reduceNeg,reduceCtorEq];(repeat' (first|with_reducible refine And.intro ?_ ?_|exact V0 |with_reducible intro _)) <;>(first|rfl|decide|assumption|omega|(simp_all [cB,dY];done) |fail))))(h2:Sub js n0 st E:=by(first|(show _<=_;decide) |(simp only[*,go_sem,Nat.reduceBEq,Nat.reduceLeDiff,Nat.reduceAdd,Nat.reduceSub,Nat.reduceMul,Int.reduceLE,Int.reduceLT,Int.reduceToNat,Int.reduceNeg,reduceCtorEq];done) |(simp only[*,go_sem,Nat.reduceBEq,Nat.reduceLeDiff,Nat.reduceAdd,Nat.reduceSub,Nat.reduceMul,Int.reduceLE,Int.reduceLT,Int.reduceToNat,Int.reduceNeg,reduceCtorEq];(repeat' (first|with_reducible refine And.intro ?_ ?_|exact V0 |with_reducible intro _)) <;>(first|rfl|decide|assumption|omega|(simp_all [cB,dY];done) |fail)))):qG E n0 st:=NS js h1 h2
def ahf {α:Type 1}{G:List SV->α->Prop}{X:SV}{k:List SV->Option α}(h:∀ l c,k l=some c->G (X::l) c):∀ l c,pQ X k l=some c->G l c:=λl c hc=>by
 obtain⟨r,rfl,h1⟩:=H5 hc;grind
def clP {p:Prop}(h:p:=by((repeat' (first|with_reducible refine And.intro ?_ ?_|exact V0 |with_reducible intro _)) <;>(first|done|with_reducible exact Empty.elim ‹Empty› |with_reducible assumption|rfl|omega|assumption|(simp_all only[cB,dY];done) |(simp_all only[cB,dY];grind)))):p:=h
def ZN (k:Tag)(i:Nat)(t:List (Nat×SV))(h:List Ob):SV->St
 | .v (.slice none 0 0) =>⟨(i,.os h.length)::t,h++[.row k []]⟩|_=>⟨t,h⟩
def acZ (k:Tag)(id off:Nat)(t:List (Nat×SV))(h:List Ob)(l:List SV):Option SV->St
 |some (.v (.slice none 0 0)) =>⟨t,cO h id (.cells (l.set off (.os h.length)))++[.row k []]⟩|_=>⟨t,h⟩
def ahg (k:Tag)(id off:Nat)(t:List (Nat×SV))(h:List Ob):Ob->St
 | .cells l=>acZ k id off t h l (nth l off)|_=>⟨t,h⟩
def ac0 (k:Tag)(j:Nat)(t:List (Nat×SV))(h:List Ob):SV->St
 | .ptr id off=>ahg k id (off+j) t h (aq h id)|_=>⟨t,h⟩
def QD (k:Tag):ResultVar->List (Nat×SV)->List Ob->St
 | .tmp i,t,h=>ZN k i t h (lk i t)| .cell i j,t,h=>ac0 k j t h (lk i t)
def NT:List (ResultVar×Tag)->St->St
 | [],st=>st|x::r,st=>NT r (QD x.2 x.1 st.t st.h)
def ac1 (k:Tag)(r:ResultVar)(st:St):aud st (QD k r st.t st.h):=by
 have⟨t,h⟩:=st;cases r with
 |tmp i=>
  show aud _ (ZN k i t h (lk i t));unfold ZN;split
  rename_i e;exact .slot _ (.refl _) e (.inl ⟨_,rfl⟩);exact .refl _
 |cell i j=>
  show aud _ (ac0 k j t h (lk i t));unfold ac0;split
  unfold ahg;split
  rename_i e;unfold acZ;split
  exact .cell _ (.refl _) e (by grind [gW]) (.inl ⟨_,rfl⟩);exact .refl _;exact .refl _;exact .refl _
theorem aud.trans {a b c:St}(h1:aud a b)(h2:aud b c):aud a c:=by
 induction h2 with
 |refl=>exact h1|cell o _ E W V O=>exact .cell o O E W V|slot o _ E V O=>exact .slot o O E V|avm k _ E O=>exact .avm k O E
def ahh (l:List (ResultVar×Tag)):∀ st,aud st (NT l st):=by
 induction l with
 |nil=>exact λst=>.refl _
 |cons x r E=>exact λst=>(ac1 x.2 x.1 st).trans (E _)
def QE (l:List (ResultVar×Tag))(rs:List ResultVar)(ts:Tis)(post:SV->Prop)(pp:Value->Prop):Ex->St->Prop
 | .exit _,_=>False| .normal,st=>jw post (Hk true rs ts (NT l st))| .ret,st=>jw post (Hk true rs ts (NT l st))| .pan x,_=>pp x
section
variable {l:List (ResultVar×Tag)}{rs:List ResultVar}{ts:Tis}{post:SV->Prop}{pp:Value->Prop}{st:St}{k:Tag}{i id off:Nat}{t:List (Nat×SV)}{h:List Ob}{m:List SV}
@[go_sem] def aj3:= @QE.eq_3
@[go_sem] def ac2:= @QE.eq_2
@[go_sem] def aj4:= @QE.eq_4
@[go_sem] def alX:= @NT.eq_1
@[go_sem]def aj5 {r:ResultVar}:NT ((r,k)::l) ⟨t,h⟩=NT l (QD k r t h):=(rfl)
@[go_sem] def aj6:= @QD.eq_1
@[go_sem] def ahi:= @QD.eq_2
@[go_sem] def alY:= @ZN.eq_1
@[go_sem]def aoF:ZN k i t h (.os id)=⟨t,h⟩:=(rfl)
@[go_sem] def alZ:= @ac0.eq_1
@[go_sem] def ahj:= @ahg.eq_1
@[go_sem] def al0:= @acZ.eq_1
@[go_sem]def aoG:acZ k id off t h m (some (.os i))=⟨t,h⟩:=(rfl)
attribute [go_sem] List.set_cons_zero
end
section
variable {P:Program}{ts:Tis}{G:Cons}
def ZO (l:List (ResultVar×Tag))(hm:P.follows .mixedOrders=true)(hts:ts.ok P)(hG:atj P G){f:FuncId}{fn:Func}{c:Code}(hf:P.funcs[f]? =some fn)(hb:fn.body=some c)(hname:(fn.name== "runtime.NumGoroutine")=false)
  (hc:db fn.ntmps c=true) {C:FI}
  (h:∀ l0 O,C l0=some O->an O->l0.length<=fn.ntmps/\∃ L,ak P none fn.ntmps L c/\exec ts G L c ⟨pZ 0 l0,[]⟩ (QE l fn.results.toList ts (et O) (lA O))):P0 P f C:=by
 refine⟨λl O _ args w=>?_,λl0 O Y hpre F w vs hF hvs=>?_⟩;simp_all [callFunc];have⟨hlen,L,hl,hx⟩:=h l0 O Y hpre;refine vo (n:=0) (callsIn_of_wp_marks hf hb trivial ?_);have hr:ati F { w:=w,own:=dI} fn.ntmps dI ⟨pZ 0 l0,[]⟩ { tmps:=vs++Array.replicate (fn.ntmps - vs.size) undef,defers:=[]} w:=
  ⟨by have:=hvs.1;simp;omega,Dfr.nil,CJ hF,Fr.refl _,λt=>tH hvs _ t⟩
 refine wpIn_mono (ut hm hts hG c hc hl F _ _ hx dI _ w hr) ?_;intro e a' w' hq;have key:∀ X own st,(∀ b,F b->X b)->ati X { w:=w,own:=dI} fn.ntmps own st a' w'->jw (et O) (Hk true fn.results.toList ts (NT l st))->LeavesInM (rd none) 0 P fn a'.tmps
   (λe w'=>(∃ s u l5,et O s/\e=.returned u/\Handed F w l5 w' s u/\Below w.heap.size w w')\/(∃ x,lA O x/\e=.panicked [{ v:=x,recovered:=false}]/\Below w.heap.size w w')) a'.defers .returning w':=by
  intro X own0' st0 hF1 hst0 E;have⟨own,hst⟩:=(ahh l st0).rel hst0;generalize NT l st0=st at hst E;refine oL hst (by simp) λw2 V=>?_;have W:=V.less hF1 rfl;unfold Hk at E;cases hs:v_ (t7 ts st fn.results.toList)with
  |none=>
   simp[Wb]at E;rw[hs]at E;exact E.elim
  |some s=>
   have⟨u,e1,e2⟩:=CI (P:=P) hts W hs;refine⟨u,e1,.inl ?_⟩;simp[Wb]at E;rw[hs]at E;change jw (et O) (E8 st.h s)at E;cases hg:E8 st.h s with
   |none=>rw[hg]at E;exact E.elim
   |some s2=>
    rw[hg]at E;have⟨l5,hh⟩:=UX W e2 hg;exact⟨_,u,l5,E,rfl,hh,tG W.fr⟩
 cases e with
 |normal=>have⟨X,own,st,h0,h1,h2⟩:=hq;exact key X own st h0 h1 h2|ret=>have⟨X,own,st,h0,h1,h2⟩:=hq;exact key X own st h0 h1 h2|exit id=>have⟨X,own,st,h0,h1,h2⟩:=hq;exact h2.elim
 |panic ch=>
  obtain⟨x,X,own,st,h0,h1,h2,rfl⟩:=hq;exact oL h1 (by simp) λw2 V=>.inr ⟨x,h2,rfl,tG V.fr⟩
 |_=>exact hq.elim
end
section
universe u
variable {α:Type u}{G:List SV->α->Prop}
def apO:Option (List SV->Option α)->List SV->Option α
 |some q,r=>q r|none,_=>none
@[go_sem] def al1:= @apO.eq_1
@[go_sem] def al2:= @apO.eq_2
def pFn (f:Nat)(k:List SV->Option (List SV->Option α)):List SV->Option α
 | .fn g [] caps::r=>bif Nat.beq g f then apO (k caps) r else none|_=>none
def pXF (f:Nat)(k:List SV->Option (List SV->Option α)):List SV->Option α
 | .ep [.fn g [] caps] 0::r=>bif Nat.beq g f then apO (k caps) r else none|_=>none
@[go_sem] def apY:= @pFn.eq_1
@[go_sem] def apZ:= @pXF.eq_1
variable {r:List SV}
theorem Va{o:Option (List SV->Option α)}{c:α}(h:apO o r=some c):∃ q,o=some q/\q r=some c:=by
 cases o with
 |none=>cases h|some q=>exact⟨q,rfl,h⟩
variable {f:Nat}{k:List SV->Option (List SV->Option α)}
theorem qH(h:∀ caps q,k caps=some q->∀ l c,q l=some c->G (.fn f [] caps::l) c):∀ l c,pFn f k l=some c->G l c:=λl c hc=>by
 unfold pFn at hc;split at hc
 rename_i g caps r;cases E:Nat.beq g f with
 |false=>rw[E]at hc;cases hc
 |true=>
  rw[E]at hc;have⟨q,h1,h2⟩:=Va hc;have:=ap_ E;subst this;exact h caps q h1 r c h2
 cases hc
theorem CN(h:∀ caps q,k caps=some q->∀ l c,q l=some c->G (.ep [.fn f [] caps] 0::l) c):∀ l c,pXF f k l=some c->G l c:=λl c hc=>by
 unfold pXF at hc;split at hc
 rename_i g caps r;cases E:Nat.beq g f with
 |false=>rw[E]at hc;cases hc
 |true=>
  rw[E]at hc;have⟨q,h1,h2⟩:=Va hc;have:=ap_ E;subst this;exact h caps q h1 r c h2
 cases hc
def pFB (f:Nat)(k:List SV->Option (List SV->Option α)):List SV->Option α
 | .fn g caps []::r=>bif Nat.beq g f then apO (k caps) r else none|_=>none
def al3 (f:Nat)(k:List SV->Option (List SV->Option α)):List SV->Option α
 | .ep [.fn g caps []] 0::r=>bif Nat.beq g f then apO (k caps) r else none|_=>none
@[go_sem] def ap0:= @pFB.eq_1
@[go_sem] def aoH:= @al3.eq_1
variable {g:Nat}{c:List SV}{x:SV}
def ap1{b:List SV}:pFB f k (.fn g b (x::c)::r)=none:=(rfl)
def aoI{b:List SV}:al3 f k (.ep [.fn g b (x::c)] 0::r)=none:=(rfl)
def ap2{b:List SV}:pFn f k (.fn g (x::b) c::r)=none:=(rfl)
def ap3{b:List SV}:pXF f k (.ep [.fn g (x::b) c] 0::r)=none:=(rfl)
attribute[go_sem]ap1 aoI ap2 ap3
end
def pXX {α:Type 1}(t:Tag)(k:t.T->List SV->Option α):List SV->Option α
 | .ep [s] 0::r=>pX t k (s::r)|_=>none
@[go_sem] def al4:= @pXX.eq_1
def CO {α:Type 1}{G:List SV->α->Prop}{t:Tag}{k:List t.T->List SV->Option α}(h:∀ n l c,k n l=some c->G (.ep [.rs t n] 0::l) c):∀ l c,pXR t k l=some c->G l c:=λl c hc=>by
 obtain⟨n,r,rfl,h1⟩:=acW hc;exact h n r c h1
def cl3 {p:Prop}(h:p:=by((repeat' (first|with_reducible refine And.intro ?_ ?_|exact V0 |with_reducible intro _)) <;>(first|done|assumption|rfl|omega|exact cl|(simp_all only[Y0,Y3,aqW,Sum.inl.injEq,forall_eq',forall_const,true_imp_iff,cond_true,cond_false,and_self];done)))):p:=h
def QF (k:Tag)(K:List k.T->Option atB):List Ob->Option atB
 | [.row k' l] =>if h:k'=k then K (h▸l)else none|_=>none
@[go_sem]def aoJ {k:Tag}{K:List k.T->Option atB}{l:List k.T}:QF k K [.row k l]=K l:=by simp[QF]
def QG {k:Tag}{K:List k.T->Option atB}{h:List Ob}{c:atB}(E:QF k K h=some c):∃ l,h=[.row k l]/\K l=some c:=by
 unfold QF at E;split at E;split at E
 rename_i e;subst e;exact⟨_,rfl,E⟩;cases E;cases E
end Go.Sx
end
section
namespace Go.Sx
open Go.Proofs Tryz
open IntKind (i64)
def H7 (x:Int×Int):List SV:=[.i x.1,.i x.2]
def yb (H:Nat):Nat->List (Int×Int)
 |0=>[]
 |r+1=>((List.range H).map λh:Nat=>((r:Int),(h:Int)))++yb H r
def cd (d:ai):List (Int×Int):=yb d.hours.toNat d.reaches.length
def aeT {j:Nat}(E:j<=aD):i64.wrap ((j:Int) - 1)=(j:Int) - 1:=by unfold aD at E;exact ar XM XM
@[go_sem] def n9:FI:=pD .al λd=>pE (.det True (.fn 245 [] [.ep (cellsOf .al d) 0]))
def CP:P0 prog 169 n9:=by
 have hG:atj prog (mkG [] []):=qF Q1 Q1;refine DZ [.o] mixed aC hG (fn:=f169) (c:=aa f169) kr kr kr kr (ap λl=>am λE=>?_);refine⟨nbl rfl,L0,ag _,?_⟩;unfold aa f169;simp[go_sem,vz,Nat.reduceBEq]
def ac3 {α:Type}{l m:List α}{x:α}{k:Nat}(h:l.drop k=x::m):l[k]? =some x/\k+1<=l.length/\l.drop (k+1)=m:=by
 have E:(l.drop k)[0]? =l[k]?:=XN
 rw[h]at E;refine⟨E.symm,?_,by rw[<-asY,h];rfl⟩;grind
def CQ (r H h:Nat):List (Int×Int):=((List.range' h (H - h)).map λh:Nat=>((r:Int),(h:Int)))
variable {r H:Nat}
theorem rX{h:Nat}(E:h<H):CQ r H h=((r:Int),(h:Int))::CQ r H (h+1):=by
 unfold CQ;rw[show H - h=(H - (h+1))+1 by omega];rfl
def xr:CQ r H H=[]:=by simp[CQ]
theorem xu:yb H (r+1)=CQ r H 0++yb H r:=by
 grind [CQ,yb,List.range_eq_range']
open Classical in
theorem WJ (d:ai)(hH:d.hours<9223372036854775808):CK prog 245 (λy=>[y,.ep (cellsOf .al d) 0]) [] ((cd d).map H7):=by
 unfold cd;generalize hI:(yb d.hours.toNat d.reaches.length).map H7=items;refine U4 (λr hr hy=>?_) (λargs w=>by kernel_rfl);have hG:atj prog (CL [] [] (itY items r)):=GK (by simp) (by simp) hy;refine⟨λl h=>if l=[.os 0,.ep (cellsOf .al d) 0]/\h=[.ab (r 1)]then some { α:=Nat,pre:=True,post:=λj=>j=0\/j=items.length+1,res:=λj=>.ret (.tup []) [.ab (r j)]}else none,
  ?_,_,if_pos ⟨rfl,rfl⟩,trivial,λj hj=>⟨_,j,_,rfl,hj⟩⟩
 refine qE mixed aC hG (fn:=f245) (c:=aa f245) kr kr kr kr λl o con h Y=>?_;split at h
 rotate_left
 cases h;rename_i hlo;obtain⟨rfl,rfl⟩:=hlo;cases h;refine⟨nbl rfl,λid st=>bif Nat.beq id 0 then some { α:=Bool,pre:=lk 0 st.t=.os 0/\lk 1 st.t=.ep (cellsOf .al d) 0/\lk 3 st.t=.i ((d.reaches.length:Int) - 1)/\st.h=[.ab (r 1)]/\d.reaches.length<=aD,post:=λ_=>True,ex:=λb=>bif b then .normal else .ret,out:=λb=>⟨[],[.ab (r (bif b then items.length+1 else 0))]⟩:at8}else none,?_,?_⟩
 ·unfold aa f245;simp[ak,true_and];refine zG mixed aC hG kr λst lc X Y=>?_;simp only[go_sem,Nat.reduceBEq,aqd]at X;subst X;have⟨t,h⟩:=st;obtain⟨h0,h1,h2,rfl,hm⟩:=Y;refine⟨Nat×Nat,λx=>⟨[(0,.os 0),(1,.ep (cellsOf .al d) 0),(3,.i ((x.2:Int) - 1))],[.ab (r (x.1+1))]⟩,λx=>x.2<=d.reaches.length/\items.drop x.1=(yb d.hours.toNat x.2).map H7/\x.1<=items.length,λx=>x.2,(0,d.reaches.length),[0],⟨aqb _,hI.symm,aqq _⟩,aqb _,?_,?_⟩;simp only[go_sem,h0,h1,h2,Nat.reduceBEq];rfl
  ·rintro⟨k,j⟩ ⟨hj,V,hk⟩;cases j with
   |zero=>
    refine⟨L0,_,ag _,λ_ _ q=>q,?_⟩;simp only[go_sem,Nat.reduceLeDiff];refine⟨λhn=>absurd hn (by decide),λhn=>?_⟩;have hlen:(yb d.hours.toNat 0).length=items.length - k:=by grind [List.length_map]
    have:(yb d.hours.toNat 0).length=0:=rfl;refine⟨true,[0],?_⟩;have e:items.length+1=k+1:=XM
    simp only[go_sem,e,Nat.reduceBEq];rfl
   |succ j=>
    have ej:((j+1:Nat):Int) - 1=(j:Int):=XM
    have hw:i64.wrap ((j:Int) - 1)=(j:Int) - 1:=aeT XM;simp only[ej];refine⟨λid st=>bif Nat.beq id 2 then some { α:=Nat×Bool,pre:=lk 0 st.t=.os 0/\lk 1 st.t=.ep (cellsOf .al d) 0/\lk 3 st.t=.i j/\lk 14 st.t=.i d.hours/\lk 15 st.t=.i 0/\st.h=[.ab (r (k+1))],post:=λx=>x.2=true->items.drop x.1=(yb d.hours.toNat j).map H7/\x.1<=items.length,ex:=λb=>bif b.2 then .normal else .ret,out:=λb=>⟨[(0,.os 0),(1,.ep (cellsOf .al d) 0),(3,.i j)],[.ab (r (bif b.2 then b.1+1 else 0))]⟩:at8}else none,_,?_,λ_ _ q=>q,?_⟩
    ·simp[ak,true_and,and_true];refine zG mixed aC hG kr λst lc X Y=>?_;simp[go_sem,Nat.reduceBEq,aqd]at X;subst X;have⟨t,h⟩:=st;obtain⟨i0,i1,i3,i14,i15,rfl⟩:=Y;refine⟨Nat×Nat,λx=>⟨[(0,.os 0),(1,.ep (cellsOf .al d) 0),(3,.i j),(14,.i d.hours),(15,.i (x.2:Int))],[.ab (r (x.1+1))]⟩,λx=>x.2<=d.hours.toNat/\items.drop x.1=(CQ j d.hours.toNat x.2++yb d.hours.toNat j).map H7/\x.1<=items.length,λx=>d.hours.toNat - x.2,(k,0),[0],⟨aqq _,by rw[V,xu],hk⟩,aqb _,?_,?_⟩;simp[go_sem];grind
     ·rintro⟨k,g⟩ ⟨hg,O,hk⟩;refine⟨L0,_,ag _,λ_ _ q=>q,?_⟩;simp only[go_sem,NQ hr,decide_eq_true_eq,Nat.reduceBEq];refine⟨λhlt=>?_,λhge=>?_⟩
      ·have E:g<d.hours.toNat:=XM
       rw[rX E,aqB]at O;have⟨q1,q2,q3⟩:=ac3 O;have hw2:i64.wrap ((g:Int)+1)=((g+1:Nat):Int):=U6 E hH;refine⟨q1,⟨(k+1,g+1),[0],⟨E,q3,q2⟩,XM,?_⟩,⟨(0,false),[0],(λh=>nomatch h),rfl,?_⟩,(λh=>nomatch h)⟩;all_goals simp only[go_sem,hw2,Nat.reduceBEq,Nat.reduceLeDiff,Nat.reduceAdd,true_and,and_true]
       all_goals (first|done|decide|(repeat' (first|refine And.intro ?_ ?_|rfl|decide)))
      ·have W:g=d.hours.toNat:=by
        grind
       subst W;rw[xr]at O;refine⟨(k,true),[0],λ_=>⟨O,hk⟩,rfl,?_⟩;all_goals simp only[go_sem,Nat.reduceBEq,Nat.reduceLeDiff,Nat.reduceAdd,true_and,and_true]
       grind
    ·simp only[go_sem,Nat.reduceBEq,Nat.reduceLeDiff,Nat.reduceAdd];refine⟨λ_ b hb=>?_,λhn=>absurd (Int.natCast_nonneg j) XN⟩;have⟨k',b⟩:=b;cases b with
     |true=>
      have⟨q1,q2⟩:=hb rfl;refine⟨(k',j),[0],⟨XM,q1,q2⟩,Nat.lt_succ_self _,?_⟩;all_goals simp only[go_sem,hw,Nat.reduceBEq,Nat.reduceLeDiff,Nat.reduceAdd,true_and,and_true]
      rfl
     |false=>
      refine⟨false,[0],rfl,?_⟩;all_goals simp only[go_sem,hw,Nat.reduceBEq,Nat.reduceLeDiff,Nat.reduceAdd,true_and,and_true]
      rfl
 unfold aa f245;simp only[go_sem,Nat.reduceBEq,Nat.reduceLeDiff];intro hm;rw[aeT hm];refine⟨⟨rfl,hm⟩,λb=>?_⟩;cases b;exact⟨0,_,_,[0],.inl rfl,rfl,aqb 1,by simp only[go_sem,Nat.reduceBEq];rfl⟩;exact⟨items.length+1,_,_,[0],.inr rfl,rfl,aqb 1,by simp only[go_sem,Nat.reduceBEq];rfl⟩
@[go_sem] def H8:FI:=pR .order λl=>pE (.det (l.length*32<=dh) (.nw .order l))
theorem FQ:P0 prog 168 H8:=by
 have hG:atj prog (mkG [] []):=qF Q1 Q1;refine ZO [(.tmp 2,.order)] mixed aC hG (fn:=f168) (c:=aa f168) kr kr kr kr (aZ λl=>am λV=>?_);refine⟨nbl rfl,L0,ag _,?_⟩;intro b O;refine⟨λh=>?_,λ_=>⟨V,λ_=>rfl⟩⟩;have E:=O h;subst E;rfl
def upL (d:ai):Nat->Int->List Int
 |0,_=>[]|f+1,n=>if 0<=n then n::upL d f (d.reaches.getD n.toNat (eT .reach)).up else []
def QH (d:ai):Nat->Int->Prop
 |0,n=>n<0|f+1,n=>0<=n->n<d.reaches.length/\QH d f (d.reaches.getD n.toNat (eT .reach)).up
def eO (d:ai)(n:Int):List Int:=upL d (n.toNat+1) n
def tI (d:ai)(n:Int):Prop:=QH d (n.toNat+1) n
variable {d:ai}{f:Nat}{n:Int}
theorem ZP(h:QH d f n)(hn:0<=n):∃ E,f=E+1/\n<d.reaches.length/\QH d E (d.reaches.getD n.toNat (eT .reach)).up/\upL d f n=n::upL d E (d.reaches.getD n.toNat (eT .reach)).up:=by
 cases f with
 |zero=>grind [QH]
 |succ E=>
  have⟨h1,h2⟩:=h hn;simp_all [upL]
theorem GM(hn:¬0<=n):upL d f n=[]:=by
 cases f with
 |zero=>rfl|succ E=>rw[upL,if_neg hn]
def QI (x:Int):List SV:=[.i x]
@[go_sem] def QJ:List SV->List Ob->Option atB:=λl h=>noH h ((pD .al λd=>pI λn=>pE (fZ True (.fn 234 [] [.ptr 0 0,.ptr 1 0]) [.cells [.i n],.cells (cellsOf .al d)])) l)
theorem NU:atA prog 160 QJ:=by
 have hG:atj prog (mkG [] []):=qF Q1 Q1;refine qE mixed aC hG (fn:=f160) (c:=aa f160) kr kr kr kr λl o O h V=>?_;obtain⟨rfl,h⟩:=U3 h;obtain⟨n,l0,rfl,E⟩:=NO h;obtain⟨d,l1,rfl,h1⟩:=YW E;obtain⟨rfl,rfl⟩:=zH h1;refine⟨nbl rfl,L0,ag _,?_⟩;unfold aa f160;simp only[go_sem,Nat.reduceBEq];refine⟨(),_,_,[1,0],trivial,rfl,?_⟩;simp only[go_sem];grind
open Classical in
theorem al5 (d:ai)(n0:Int)(Y:tI d n0):CK prog 234 (λy=>[y,.ptr 1 0,.ptr 2 0]) [.cells [.i n0],.cells (cellsOf .al d)] ((eO d n0).map QI):=by
 unfold eO;generalize hI:(upL d (n0.toNat+1) n0).map QI=items;refine U4 (λr hr hy=>?_) (λargs w=>by kernel_rfl);have hG:atj prog (CL [] [] (itY items r)):=GK (by simp) (by simp) hy;refine⟨λl h=>if l=[.os 0,.ptr 1 0,.ptr 2 0]/\h=[.ab (r 1),.cells [.i n0],.cells (cellsOf .al d)]then some { α:=Nat,pre:=True,post:=λj=>j=0\/j=items.length+1,res:=λj=>.ret (.tup []) [.ab (r j),.dead,.dead]}else none,
  ?_,_,if_pos ⟨rfl,rfl⟩,trivial,λj W=>⟨_,j,_,rfl,W⟩⟩
 refine qE mixed aC hG (fn:=f234) (c:=aa f234) kr kr kr kr λl o con h hp=>?_;split at h
 rotate_left
 cases h;rename_i X;obtain⟨rfl,rfl⟩:=X;cases h;refine⟨nbl rfl,λid st=>bif Nat.beq id 0 then some { α:=Nat×Bool,pre:=lk 0 st.t=.os 0/\lk 1 st.t=.ptr 1 0/\lk 2 st.t=.ptr 2 0/\st.h=[.ab (r 1),.cells [.i n0],.cells (cellsOf .al d)],post:=λj=>j.1=0\/j.1=items.length+1,ex:=λj=>bif j.2 then .ret else .normal,out:=λj=>⟨[],[.ab (r j.1),.dead,.dead]⟩:at8}else none,?_,?_⟩
 ·refine zG mixed aC hG kr λst lc hC hp=>?_;simp[go_sem,Nat.reduceBEq,aqd]at hC;subst hC;have⟨t,h⟩:=st;obtain⟨h0,h1,h2,rfl⟩:=hp;refine⟨Nat×Nat×Int,λx=>⟨[(0,.os 0),(1,.ptr 1 0),(2,.ptr 2 0)],[.ab (r (x.1+1)),.cells [.i x.2.2],.cells (cellsOf .al d)]⟩,λx=>QH d x.2.1 x.2.2/\items.drop x.1=(upL d x.2.1 x.2.2).map QI/\x.1<=items.length,λx=>x.2.1,(0,n0.toNat+1,n0),[0,1,2],⟨Y,hI.symm,aqq _⟩,aqb _,?_,?_⟩;simp only[go_sem,h0,h1,h2];decide
  ·rintro⟨k,f,n⟩ ⟨hf,E,hk⟩;refine⟨L0,_,ag _,λ_ _ q=>q,?_⟩;simp only[go_sem,NQ hr,decide_eq_true_eq,Nat.reduceBEq,Nat.reduceLeDiff];have O:(upL d f n).length=items.length - k:=by grind [List.length_map]
   refine⟨λhn=>?_,λhn=>?_⟩
   ·obtain⟨f',rfl,e1,e2,e3⟩:=ZP hf hn;have V:items[k]? =some (QI n):=by
     have:(items.drop k)[0]? =items[k]?:=XN
     grind
    rw[e3]at E O;have hk1:k+1<=items.length:=XN
    have hd':items.drop (k+1)=(upL d f' (d.reaches.getD n.toNat (eT .reach)).up).map QI:=by rw[<-asY,E];rfl
    refine⟨V,⟨⟨hn,e1⟩,(k+1,f',(d.reaches.getD n.toNat (eT .reach)).up),[0,1,2],⟨e2,hd',hk1⟩,Nat.lt_succ_self _,?_⟩,⟨(0,true),[0,1,2],.inl rfl,rfl,?_⟩,λh=>nomatch h⟩;all_goals simp only[go_sem,Nat.reduceBEq,Nat.reduceLeDiff,Nat.reduceAdd,true_and,and_true]
    all_goals (first|done|decide|(repeat' (first|refine And.intro ?_ ?_|rfl|decide)))
   have hn':¬0<=n:=XN
   rw[GM hn']at O;simp at O;refine⟨(k+1,false),[0,1,2],.inr XM,rfl,?_⟩;simp only[go_sem];decide
 unfold aa f234;simp only[go_sem,Nat.reduceBEq];rintro⟨j,b⟩ W;cases b;exact⟨j,_,_,[0,1,2],W,rfl,aqb 3,by simp only[go_sem];decide⟩;exact⟨j,_,_,[0,1,2],W,rfl,aqb 3,by simp only[go_sem];decide⟩
def hUp (K:Int->ai->Option atB):List Ob->Option atB
 | [.cells [.v (.int .i64 n)],.cells c] =>pDo (λd _=>K n d) [] (yQ .al c)
 |_=>none
@[go_sem] def ap4:= @hUp.eq_1
theorem Vb {K:Int->ai->Option atB}{h:List Ob}{c:atB}(E:hUp K h=some c):∃ n d,h=[.cells [.i n],.cells (cellsOf .al d)]/\K n d=some c:=by
 unfold hUp at E;split at E
 rename_i n cs;have⟨x,r,e1,e2⟩:=YX (t:=.al) (kd:=λd _=>K n d) (l:=[.ep cs 0]) E;obtain⟨rfl,rfl⟩:=e1;exact⟨n,x,rfl,e2⟩;cases E
abbrev ahk:SV:=.fn 234 [] [.ptr 0 0,.ptr 1 0]
noncomputable def jy:List SV->List Ob->Option atB:=λl h=>hUp (λn d=>pQ (.v (.slice none 0 0)) (pQ ahk (pE (fZ (0<=n/\tI d n/\(eO d n).length*8<=dh) (.os 2) [.dead,.dead,.row .int (eO d n)]))) l) h
noncomputable def xv:List SV->List Ob->Option atB:=λl h=>hUp (λn d=>pQ ahk (pE (fZ (0<=n/\tI d n/\(eO d n).length*8<=dh) (.os 2) [.dead,.dead,.row .int (eO d n)])) l) h
def Fg:List Int->List Ob
 | [] =>[.dead,.dead,.cells [.v (.slice none 0 0)]]|x::l=>[.dead,.dead,.cells [.os 3],.row .int (x::l)]
def Fh (x:Int)(l:List Int):Empty⊕List Int:=.inr (l++[x])
theorem Mf:∀ (l m:List Int),cS Fh l m=.inr (m++l)
 | [],m=>by simp[cS]
 |x::l,m=>by simp[cS,Fh];rw[Mf l];simp
theorem QK {B:Nat}:∀ (l m:List Int),m.length+l.length<=B->okL Fh (λ_ s=>s.length+1<=B) l m
 | [],_,_=>trivial
 |x::l,m,h=>⟨by simp at h;omega,λs' E=>by
  simp[Fh,aqW]at E;subst E;exact QK l _ (by simp at h |-;omega)⟩
theorem ahl {d:ai}{n:Int}(hn:0<=n):∃ x l,eO d n=x::l:=⟨_,_,by unfold eO;rw[upL,if_pos hn]⟩
theorem AU:atA prog 233 jy:=by
 have hG:atj prog (mkG [] []):=qF Q1 Q1;refine qE mixed aC hG (fn:=f233) (c:=aa f233) kr kr kr kr λl o con h E=>?_;unfold jy at h;obtain⟨n,d,rfl,Y⟩:=Vb h;obtain⟨l0,rfl,h1⟩:=H5 Y;obtain⟨l1,rfl,h2⟩:=H5 h1;obtain⟨rfl,rfl⟩:=zH h2;obtain⟨hn,O,hB⟩:=E;refine⟨nbl rfl,λid st=>bif Nat.beq id 0 then some (LC (ρ:=Empty) (σ:=List Int) (lk 2 st.t=.ptr 2 0/\lk 6 st.t=ahk/\st.h=[.cells [.i n],.cells (cellsOf .al d),.cells [.v (.slice none 0 0)]]) (cS Fh (eO d n) []) (·.elim) (·.elim) (λs=>⟨[(2,.ptr 2 0)],Fg s⟩))else none,?_,?_⟩
 ·unfold aa f233;simp only[ak,true_and,and_true];refine uR mixed aC hG (by decide) (by decide) kr kr λst lc V E=>?_;simp only[go_sem,Nat.reduceBEq,aqd]at V;subst V;obtain⟨t,h⟩:=st;dsimp only[LC]at E;obtain⟨e2,e6,rfl⟩:=E;refine⟨234,[.ptr 0 0,.ptr 1 0],Int,_,_,eO d n,QI,Fh,λ_ s=>s.length+1<=(eO d n).length,_,[],_,_,_,[(2,.ptr 2 0)],Fg,(·.elim),[0,1,2],?_,rfl,QK _ _ (by simp),nbl rfl,?_,?_,λx s hq=>⟨rfl,L0,λl=>ag _,λl=>ag _,?_⟩,λs=>?_,λy=>y.elim⟩;simp[go_sem,e6]
  ·simp only[go_sem,Fg,e2];all_goals (first|done|decide|(repeat' (first|refine And.intro ?_ ?_|rfl|decide)))
  exact al5 d n O;have W:(s++[x]).length*8<=dh:=by simp;omega
  cases s with
  |nil=>
   simp only[go_sem,psT,QI,Fg,Fh,aqB,aqs,Nat.reduceBEq,Nat.reduceLeDiff,Nat.reduceAdd,Nat.reduceSub,Nat.reduceMul];exact⟨by simpa using W,λ_=>fk (jl [0,1,2,4])⟩
  |cons a m=>
   simp only[go_sem,psT,QI,Fg,Fh,aqB,aqs,Nat.reduceBEq,Nat.reduceLeDiff,Nat.reduceAdd,Nat.reduceSub,Nat.reduceMul];exact⟨by simpa using W,λ_=>fk (jl [0,1,2,5])⟩
  cases s with
  |nil=>simp[Fg];exact fk (jl [0,1,2])|cons a m=>simp[Fg];exact fk (jl [0,1,2,3])
 ·unfold aa f233;have⟨x,l,hx⟩:=ahl (d:=d) hn;simp only[go_sem,Nat.reduceBEq,Nat.reduceAdd,Mf,hx,Fg];refine⟨λy=>y.elim,λs X=>?_⟩;cases X;refine⟨(),_,_,[0,1,3],trivial,rfl,?_⟩;simp[go_sem];all_goals (first|done|decide|(repeat' (first|refine And.intro ?_ ?_|rfl|decide)))
theorem CR:atA prog 159 xv:=by
 have hG:atj prog (mkG [] [(233,jy)]):=qF Q1 (cgc AU Q1);refine qE mixed aC hG (fn:=f159) (c:=aa f159) kr kr kr kr λl o V h O=>?_;obtain⟨n,d,rfl,E⟩:=Vb h;obtain⟨l1,rfl,h2⟩:=H5 E;obtain⟨rfl,rfl⟩:=zH h2;refine⟨nbl rfl,L0,ag _,?_⟩;unfold aa f159;simp only[go_sem,jy,Nat.reduceBEq];refine⟨O,(),_,_,[0,1,2],trivial,rfl,?_⟩;simp[go_sem];all_goals (first|done|decide|(repeat' (first|refine And.intro ?_ ?_|rfl|decide)))
attribute [go_sem] jy xv
end Go.Sx
end
section
namespace Go.Sx
open Go.RowKit
def pXM {α:Type 1}(t t2:Tag)(k:List (t.T×t2.T)->List SV->Option α):List SV->Option α
 | .ep [s] 0::r=>pM t t2 k (s::r)|_=>none
@[go_sem] def al6:= @pXM.eq_1
def NV {α:Type 1}{G:List SV->α->Prop}{t t2:Tag}{k:List (t.T×t2.T)->List SV->Option α}(h:∀ n l c,k n l=some c->G (.ep [.rm t t2 n] 0::l) c):∀ l c,pXM t t2 k l=some c->G l c:=λl c hc=>by
 unfold pXM at hc;split at hc
 have⟨x,r,e,h1⟩:=YY hc;obtain⟨rfl,rfl⟩:=e;exact h x _ c h1;cases hc
section
universe u
variable {α:Type u}{G:List SV->α->Prop}
def pLS (k:List SV->Option (List SV->Option α)):List SV->Option α
 | .ls 1 l::r=>apO (k l) r|_=>none
@[go_sem] def ap5:= @pLS.eq_1
end
open Classical in
noncomputable def jR {τ:Type}(A:τ->List SV)(H:τ->List Ob)(K:τ->atB):List SV->List Ob->Option atB:=λl h=>if e:∃ x,l=A x/\h=H x then some (K e.choose)else none
def ZQ (x:bo):(⟨x.no,x.kind,x.right,x.since,x.to,x.parts,x.of_,x.at_,x.known⟩:bo)=x:=rfl
def NW (d:ai):(⟨d.name,d.hours,⟨d.atx.cap,d.atx.start⟩,d.reaches,d.zs,d.atE,d.bl,d.aty,d.auc⟩:ai)=d:=rfl
def WK {k:Tag}{x y:k.T}:cellsOf k x=cellsOf k y↔x=y:=⟨λh=>by
 have h1:=DP x;rw[h,DP y]at h1;exact(Option.some.inj h1).symm,λh=>by rw[h]⟩
def gb {τ:Type}{A:τ->List SV}{H:τ->List Ob}{K:τ->atB}{x:τ}(E:∀ x y,A x=A y->H x=H y->x=y:=by
 intro x y h1 h2;simp only[arP,SV.agg.injEq,SV.ep.injEq,SV.v.injEq,Value.int.injEq,Value.bool.injEq,Value.string.injEq,SV.fn.injEq,SV.rs.injEq,SV.rm.injEq,Ob.row.injEq,Ob.mp.injEq,Ob.cells.injEq,Ob.atH.injEq,heq_eq_eq,WK,true_and,and_true]at h1 h2;first|exact h2|exact h1|(simp_all [Prod.ext_iff];done)):jR A H K (A x) (H x)=some (K x):=by
 have e:∃ y,A x=A y/\H x=H y:=⟨x,rfl,rfl⟩;unfold jR;rw[dif_pos e];have:=E _ _ e.choose_spec.1 e.choose_spec.2;rw[<-this]
def ed {τ:Type}{A:τ->List SV}{H:τ->List Ob}{K:τ->atB}{l:List SV}{h:List Ob}{c:atB}(E:jR A H K l h=some c):∃ x,l=A x/\h=H x/\c=K x:=by
 unfold jR at E;split at E
 rename_i e;simp[aqd]at E;exact⟨e.choose,e.choose_spec.1,e.choose_spec.2,E.symm⟩;cases E
section
variable {P:Program}{ts:Tis}{G:Cons}{N:Nat}
theorem BK (hm:P.follows .mixedOrders=true)(hts:ts.ok P)(hG:atj P G){id:Nat}{g:Operand}{W:Array Tmp}{assign body:Code}{C:St->Option at8}
  (hpn:W.toList.Nodup) (Y:∀ p∈W.toList,p<N) (hca:db N assign=true) (hcb:db N body=true)
  (h:∀ E V,C E=some V->V.pre->∃ st,aud E st/\∃ (f:FuncId) (caps:List SV) (τ ρ σ:Type) (l:List τ) (X:τ->List SV) (step:τ->σ->ρ⊕σ) (p:τ->σ->Prop) (pre:Prop) (s0:σ) (exE:ρ->Ex) (Y2:ρ->St) (atw:σ->St) (T:List (Nat×SV)) (H:σ->List Ob) (Hy:ρ->List Ob) (js:List Nat),
   raw st.t g=.fn f [] caps/\V=LC pre (cS step l s0) exE Y2 atw/\okL step p l s0/\st.h.length<=(H s0).length/\Sub js st.h.length ⟨st.t,ww (lB st caps) st.h⟩ ⟨T,H s0⟩/\
   CK P f (λy=>y::caps.map (ren (Ts (lB st caps)) 3)) (Qr (lB st caps) st.h) (l.map X)/\
   (∀ x s,p x s->(X x).length=W.size/\∃ L,(∀ l,ak P (some l) N L assign)/\(∀ l,ak P (some l) N L body)/\exec ts G L assign ⟨psT W.toList (X x)++T,H s⟩ (λe st1=>e=.normal/\exec ts G L body st1 (rgQ step exE T H Hy st.h.length id x s)))/\
   (∀ s,qG (atw s) st.h.length ⟨T,H s⟩)/\∀ y,qG (Y2 y) st.h.length ⟨T,Hy y⟩):mB P none N id (.rangeFunc g W assign body) C:=by
 intro nd F w0 E V hC O own a w hr;have⟨st,hN,hrest⟩:=h E V hC O;have⟨l5,hr'⟩:=hN.rel hr;refine uR hm hts hG hpn Y hca hcb (C:=λs=>@ite _ (s=st) (Classical.propDecidable _) (some V) none) (λs l e _=>?_) nd F w0 st V (if_pos rfl) O l5 a w hr';split at e
 rename_i e1;subst e1;cases e;exact hrest;cases e
end
def ahm (n0 id:Nat):Ob->SV
 | .row k l=>bif Nat.ble n0 id then .rs k l else .any|_=>.any
def isV:SV->Bool
 | .v _=>true|_=>false
def WL (n0:Nat)(h:List Ob):SV->SV
 | .v x=>.v x| .rs k l=>.rs k l| .agg l=>bif l.all isV then .agg l else .any| .os id=>ahm n0 id (aq h id)|_=>.any
def Tv (n0:Nat)(h:List Ob):SV->SV
 | .tup l=>.tup (l.map (WL n0 h))|s=>WL n0 h s
section
variable {F:Nat->Prop}{own:Own}{w:World}{n0:Nat}{h:List Ob}
@[go_sem] def al7:= @Tv.eq_1
def aoK {a:Nat}:Tv n0 h (.os a)=ahm n0 a (aq h a):=(rfl)
def ap6 {x:Value}:Tv n0 h (.v x)=.v x:=(rfl)
def aoL {k:Tag}{l:List k.T}:Tv n0 h (.rs k l)=.rs k l:=(rfl)
def al8 {l:List SV}:Tv n0 h (.agg l)=bif l.all isV then .agg l else .any:=(rfl)
attribute[go_sem]aoK ap6 aoL al8
@[go_sem] def ap7:= @WL.eq_1
@[go_sem] def aoM:= @WL.eq_2
@[go_sem] def al9:= @WL.eq_3
@[go_sem] def aoN:= @WL.eq_4
@[go_sem] def al_:= @ahm.eq_1
@[go_sem] def awS:= @isV.eq_1
end
def ahn (pks:List Pk)(n0:Nat)(S:SV)(H h:List Ob):Option SV->Prop
 |some s=>S=AT pks (Tv n0 h s)/\qG ⟨[],H⟩ n0 ⟨[],h⟩|none=>False
def aeU (pks:List Pk)(n0:Nat)(rs:List ResultVar)(ts:Tis)(S:SV)(H:List Ob):Ex->St->Prop
 | .exit _,_=>False| .normal,st=>ahn pks n0 S H st.h (v_ (t7 ts st rs))| .ret,st=>ahn pks n0 S H st.h (v_ (t7 ts st rs))| .pan _,_=>False
section
variable {P:Program}{ts:Tis}{G:Cons}{n0:Nat}{S s:SV}{H h:List Ob}{rs:List ResultVar}{st:St}{pks:List Pk}
@[go_sem] def aj7:= @ahn.eq_1
@[go_sem] def ac4:= @aeU.eq_2
@[go_sem] def aj8:= @aeU.eq_3
end
def ama (h:List Ob):Option Con->Option atB
 |some (.det p s) =>some (fZ p (Tv 0 (a6 3 s) (jN 3 0 s)) (h.map λ_=>.dead))
 |_=>none
def awD (C:FI)(l:List SV)(h:List Ob):Option atB:=ama h (C (l.map (iW h 6)))
@[go_sem] def aoO:= @awD.eq_1
@[go_sem] def amc:= @ama.eq_1
section
variable {P:Program}{F:Nat->Prop}{own:Own}{w w':World}
end
end Go.Sx
end
section
namespace Go.Sx
def amd {a:TI}{b:Nat}{h:List Ob}{s:SV}:nW a b h [.any,s]=.bad:=(rfl)
def ap8 {t:Tag}{f:List t.T->List SV->Option Con}{l:List SV}:pR t f (.any::l)=none:=(rfl)
attribute[go_sem]amd ap8
end Go.Sx
end
section
namespace Go.Sx
universe u
section
variable {α:Type u}
def pV (k:Int->List SV->Option α):List SV->Option α
 | .v (.int .u8 n)::r=>k n r|_=>none
@[go_sem] def aoP:= @pV.eq_1
def pW (k:Int->List SV->Option α):List SV->Option α
 | .v (.int .u16 n)::r=>k n r|_=>none
@[go_sem] def aoQ:= @pW.eq_1
end
end Go.Sx
end
section
namespace Go.Sx
open Go.RowKit
def orC {α:Type 1}:Option α->Option α->Option α
 |some x,_=>some x|none,y=>y
@[go_sem] def ame:= @orC.eq_1
@[go_sem] def amf:= @orC.eq_2
def Aw {α:Type 1}{a b:Option α}{c:α}(h:orC a b=some c):a=some c\/b=some c:=by
 cases a with
 |none=>exact .inr h|some x=>exact .inl h
variable {P:Program}{f:FuncId}
theorem atA.or{C D:List SV->List Ob->Option atB}(h1:atA P f C)(h2:atA P f D):atA P f (λl h=>orC (C l h) (D l h)):=
 ⟨λl h c hc=>by rcases Aw hc with e|e;exact h1.enter l h c e;exact h2.enter l h c e,
  λl h c hc=>by rcases Aw hc with e|e;exact h1.calls l h c e;exact h2.calls l h c e⟩
theorem P0.or{C D:FI}(h1:P0 P f C)(h2:P0 P f D):P0 P f (λl=>orC (C l) (D l)):=
 ⟨λl c hc=>by rcases Aw hc with e|e;exact h1.enter l c e;exact h2.enter l c e,
  λl c hc=>by rcases Aw hc with e|e;exact h1.calls l c e;exact h2.calls l c e⟩
end Go.Sx
end
section
namespace Go.Sx
def aho {α:Type}:Result α->World
 | .ok _ w=>w| .halt _ w=>w
def Tw {α:Type}:∀ (a:Ask α) (w:World),w.drawn<=(w.ask a).2.drawn
 | .done a,w=>aqb _
 | .ask what range k,w=>by
  unfold World.ask;dsimp only;split
  exact Tw _ w;exact aqp (Nat.le_succ _) (Tw _ { w with drawn:=w.drawn+1})
def ahp (w:World)(c:Sys):w.drawn<=(w.sys c).2.drawn:=by
 unfold World.sys;have:=Tw (Kernel.perform c w.os) w;grind
variable {p:Program}{w:World}{v:Value}
def QL{w':World}{a:Addr}{b:Bool}{l:List Addr}(h:w.farStore p a v b=.ok (w',l)):w'.drawn=w.drawn:=by
 unfold World.farStore at h;split at h
 ·split at h
  ·rename_i r hr;cases h;unfold World.viewStore at hr;simp[bind,Except.bind]at hr
   repeat' split at hr
   all_goals (first|(cases hr;done) |skip)
   all_goals (cases hr;rfl)
  cases h
 cases h
variable {α:Type}
theorem NX(p:Program):∀ (s:Sem α) (w:World),w.drawn<=(aho (s.run p w)).drawn:=by
 intro s;induction s with
 |pure a=>intro w;exact aqb _
 |load m a k E=>
  intro w;unfold Sem.run;split
  exact E _ w;split
  exact E _ w;exact aqb _
 |store m a v k E=>
  intro w;cases v
  case agg=>exact aqb _
  case tuple=>exact aqb _
  all_goals
   simp only[Sem.run];split
   split
   exact aqb _;exact E (w.setCell a _);split
   rename_i h;rw[<-QL h];exact E _;exact aqb _
 |new o k E=>intro w;exact E w.heap.size { w with heap:=w.heap.push o}
 |shape r k E=>intro w;exact E _ _
 |freeze a n k E=>
  intro w;have:(w.freeze a n).drawn=w.drawn:=by grind [World.freeze]
  rw[<-this];exact E _
 |frozen a k E=>intro w;exact E _ _
 |getObj r k E=>
  intro w;unfold Sem.run;split
  exact aqb _;exact E _ _;exact aqb _
 |setObj r o k E=>
  intro w;unfold Sem.run;split
  exact aqb _;grind
  exact aqb _
 |choose q k E=>
  grind [Sem.run]
 |sys c k E=>intro w;exact aqp (ahp w c) (E _ _)|program k E=>intro w;exact E _ _|mark m k E=>intro w;exact E _|halt h=>intro w;exact aqb _
theorem ZR(p:Program):∀ (s:Sem α) (w:World) (es:Array Event),(s.runT p w es).1=s.run p w:=by
 simp_all
theorem na{s:Sem α}{w':World}{a:α}(h:s.run p w=.ok a w'):w.drawn<=w'.drawn:=by have:=NX p s w;rw[h]at this;exact this
theorem ZS{s:Sem α}{w':World}{a:Halt}(h:s.run p w=.halt a w'):w.drawn<=w'.drawn:=by have:=NX p s w;rw[h]at this;exact this
theorem uw{s:Sem α}{es E:Array Event}{r:Result α}(h:s.runT p w es=(r,E)):w.drawn<=(aho r).drawn:=by
 have:=ZR p s w es;have h2:=NX p s w;grind
def gLe (w:World):GStep->Prop
 | .ended .. =>True| .go _ w' _| .comm _ _ _ _ w' _| .spawn _ _ w' _| .count _ w' _| .timer _ _ w' _| .alone _ _ w' _| .newcoro _ _ _ w' _| .coroswitch _ _ _ w' _| .collect _ w' _| .watch _ w' _=>w.drawn<=w'.drawn
theorem gLe.after{es:Array Event}{s:GStep}(h:gLe w s):gLe w (s.after es):=by cases s <;>exact h
theorem gLe.trans{w':World}{s:GStep}(h1:w.drawn<=w'.drawn)(h:gLe w' s):gLe w s:=by cases s <;>first|trivial|exact aqp h1 h
theorem GN{c:Prop}[Decidable c]{a b:GStep}(h1:gLe w a)(h2:gLe w b):gLe w (if c then a else b):=XN
def wx (a:Frame)(m:String)(w:World):gLe w (endThrow a m w):=aqb _
theorem zJ (p:Program)(fr:Frame)(v:Value)(w:World):gLe w (endPrinting p fr v w):=by
 unfold endPrinting;dsimp only;split
 exact wx _ _ _;trivial
theorem Fi (p:Program)(fr:Frame)(E:List Frame)(O:Option Dying)(m:String)(w:World):gLe w (endFatal p fr E O m w):=by
 unfold endFatal
 extract_lets
 split
 rename_i h;exact na h;trivial;trivial
theorem Tx (p:Program)(fr:Frame)(d:Dying)(f:Fatal)(w:World):gLe w (writeOn p fr d f w):=by
 unfold writeOn;split
 trivial
 extract_lets
 generalize h:Sem.runT _ _ _ _=rr;have⟨r,es⟩:=rr;have h:=uw h;split
 rename_i e;cases e;exact h;rename_i e;cases e;exact h;trivial;trivial
theorem Tz (w w':World)(fd:Nat)(t:ByteArray)(o:Outcome):gLe w (endWith w' fd t o):=by
 unfold endWith
 extract_lets
 split
 split <;>trivial
 trivial;trivial
theorem ahq (p:Program)(fr:Frame)(d:Dying)(w:World):gLe w (die p fr d w):=by
 unfold die;split
 exact Tx _ _ _ _ _
 ·split
  split
  exact aqb _;exact Tz _ _ _ _ _
  ·split
   exact aqb _;split
   rename_i h;exact na h;trivial
   ·split
    rename_i h;have h:=uw h;refine gLe.after ?_;split
    all_goals first|exact h|trivial|exact gLe.trans h (zJ _ _ _ _)
   trivial
theorem zK (p:Program)(V:Bool)(fr:Frame)(E:List Frame)(O:Option Dying)(v:Value)(w:World):gLe w (doReturn p V fr E O v w):=by
 unfold doReturn;split
 ·split
  all_goals exact aqb _
 split
 exact aqb _;trivial;split
 exact aqb _;split
 exact aqb _;trivial
theorem FR (p:Program)(fr:Frame)(E:List Frame)(O:Option Dying)(d:Deferred)(w:World):gLe w (callDeferred p fr E O d w):=by
 refine GN trivial ?_;rcases h:(invoke d.target d.args).runT p w #[]with⟨r,es⟩;have h:=uw h;refine gLe.after ?_;split
 all_goals first|exact h|trivial|exact gLe.trans h (Fi _ _ _ _ _ _) |exact gLe.trans h (wx _ _ _) |skip
 split <;>exact h
theorem WN (p:Program)(V:Bool)(fr:Frame)(E:List Frame)(O:Option Dying)(w:World):gLe w (unwind p V fr E O w):=by
 unfold unwind;split
 split
 rename_i h;have h:=uw h;split
 exact h;trivial;exact FR _ _ _ _ _ _;split
 trivial;split
 trivial;split
 exact aqb _;split
 split
 exact aqb _;split
 rename_i h;exact na h;trivial;trivial;split
 exact zJ _ _ _ _;trivial;split
 exact zK _ _ _ _ _ _ _;split
 rename_i h;have h:=uw h;refine gLe.after ?_;split
 exact gLe.trans h (zK _ _ _ _ _ _ _);trivial;trivial
theorem ZT (p:Program)(fr:Frame)(E:List Frame)(O:Option Dying)(g:Nat)(w:World):gLe w (early p fr E O g w):=by
 unfold early
 extract_lets refuse notYet there
 have hn:∀ w0:World,w.drawn<=w0.drawn->gLe w (notYet w0):=λw0 V=>by
  show gLe w (match w0.heap[g]? with|some (.pending c elem) =>_|_=>_);split
  exact V;trivial
 split
 grind
 split
 trivial
 extract_lets there
 have W:∀ w0:World,w.drawn<=w0.drawn->gLe w (there w0):=λw0 V=>V;split
 grind
 split
 grind
 split
 trivial;grind
 trivial;grind
 split
 grind
 split
 grind
 split
 rename_i h;exact hn _ (na h);rename_i h;exact W _ (na h);trivial
theorem zL (p:Program)(E:Bool)(fr:Frame)(O:List Frame)(V:Option Dying)(s:Sem Next)(w:World):gLe w (Go.stepG.apply p E fr O V s w):=by
 unfold Go.stepG.apply;have hr:∃ r es,(if E=true then s.runT p w #[]else(s.run p w,#[]))=(r,es)/\w.drawn<=(aho r).drawn:=by
  split
  rcases h:s.runT p w #[]with⟨r,es⟩;exact⟨r,es,rfl,uw h⟩;exact⟨_,_,rfl,NX p s w⟩
 have⟨r,es,he,h⟩:=hr;rw[he];refine gLe.after ?_;split
 all_goals first|exact h|trivial|exact hgo _ _ h|exact gLe.trans h (Fi _ _ _ _ _ _) |exact gLe.trans h (wx _ _ _) |exact gLe.trans h (ZT _ _ _ _ _ _) |skip
 all_goals first|(refine GN (gLe.trans h (wx _ _ _)) ?_;exact h) |(split <;>first|exact h|trivial|exact hgo _ _ h)
theorem ac5 (p:Program)(O:Bool)(fr:Frame)(E:List Frame)(V:Option Dying)(w:World):gLe w (Go.stepG.oper p O fr E V w):=by
 unfold Go.stepG.oper;split
 trivial;split
 exact zL _ _ _ _ _ _ _;exact zL _ _ _ _ _ _ _
theorem Vc{o:Option α}{a:GStep}{f:α->GStep}(h1:gLe w a)(h2:∀ x,gLe w (f x)):gLe w (o.elim a f):=by cases o;exact h1;exact h2 _
theorem ac6 (p:Program)(main W:Bool)(fr:Frame)(V:List Frame)(dying:Option Dying)(w:World):gLe w (Go.stepG.exec p main W fr V dying w):=by
 unfold Go.stepG.exec
 extract_lets go to lost leave
 have Y:∀ fr w0,w.drawn<=w0.drawn->gLe w (go fr w0):=λfr w0 h0=>h0;have X:∀ k,gLe w (to k):=λk=>aqb _;have O:∀ m,gLe w (lost m):=λ_=>trivial;have E:∀ j,gLe w (leave j):=λj=>by
  show gLe w (match fr.roundOf with|none=>_|some l=>_);split
  grind
  rcases h:(Instr.endRound _ j).runT p w #[]with⟨r,es⟩;have h:=uw h;refine gLe.after ?_;split
  exact gLe.trans h (zK _ _ _ _ _ _ _);trivial
 have hgo1:∀ fr,gLe w (go fr w):=λfr=>aqb _
 clear_value to lost leave
 split
 all_goals first|exact E _|exact X _|exact O _|trivial|exact Vc (E _) X|exact zL _ _ _ _ _ _ _|exact Vc (O _) (λ_=>zL _ _ _ _ _ _ _) |skip
 grind
 rcases h:(Instr.enterLoop fr.fn fr.tmps _ _ _ fr.roundOf).runT p w #[]with⟨r,es⟩;have h:=uw h;refine gLe.after ?_;split
 exact gLe.trans h (zL _ _ _ _ _ _ _);trivial;rcases h:(Instr.endLoop _).runT p w #[]with⟨r,es⟩;have h:=uw h;refine gLe.after ?_;split
 exact Y _ _ h;exact Y _ _ h;trivial;refine GN (X _) ?_;split
 rename_i h;exact Y _ _ (na h);trivial;exact GN (ac5 _ _ _ _ _ _) (hgo1 _)
theorem ZU (p:Program)(O:Bool)(g:Goroutine)(w:World)(E:Bool):gLe w (Go.stepG p O g w E):=by
 unfold Go.stepG;dsimp only;split
 exact ahq _ _ _ _;exact ac6 _ _ _ _ _ _ _;exact WN _ _ _ _ _ _
def sLe (w:World):Stepped->Prop
 | .next m=>w.drawn<=m.world.drawn| .ended .. =>True
theorem sLe.trans{w':World}{s:Stepped}(h1:w.drawn<=w'.drawn)(h:sLe w' s):sLe w s:=by cases s <;>first|trivial|exact aqp h1 h
theorem Vd{c:Prop}[Decidable c]{a b:Stepped}(h1:sLe w a)(h2:sLe w b):sLe w (if c then a else b):=XN
theorem Ve (p:Program)(gs:Array Goroutine)(rest:Rest)(w:World):sLe w (look p gs rest w):=by
 unfold look;split
 extract_lets
 refine Vd trivial ?_;split
 trivial
 extract_lets
 split
 rename_i h;have h:=na h;exact h;trivial;trivial;trivial
theorem NY{rest:Rest}{cases:Array CommCase}{w':World}(h:waitingAt rest cases w=some w'):w.drawn<=w'.drawn:=by
 grind [waitingAt]
theorem H9 (p:Program)(rest:Rest)(gs:Array Goroutine)(i:Nat)(g:Goroutine)(cases:Array CommCase)(V:Bool)(O:CommShape)(w:World):sLe w (communicate p rest gs i g cases V O w).1:=by
 unfold communicate
 extract_lets put illMade me other
 have E:∀ g gs w0 ops,w.drawn<=w0.drawn->sLe w (put g gs w0 ops).1:=λ_ _ _ _ h=>h;split
 trivial;split
 split
 split
 rename_i h;exact NY h;trivial;simp_all;split
 trivial;rename_i h;have hw:=na h
 extract_lets r
 split
 split
 rename_i h2;exact E _ _ _ _ (aqp hw (ZS h2));trivial;simp_all;simp_all;split
 simp_all;split
 rename_i h2;have W:=na h2;exact E _ _ _ _ (aqp hw W);trivial;simp_all;simp_all;trivial
theorem Mg (m:Machine)(k:Nat)(t:Timer)(a b:Nat):m.world.drawn<=(retime m k t a b).2.world.drawn:=by
 grind [retime,drain]
variable {m:Machine}
theorem TA{O:Machine}{op:TimerOp}(h:timerOp m op=.ok (v,O)):m.world.drawn<=O.world.drawn:=by
 have named:∀ (D:Nat) (V:Machine) E f,(∀ k t,D<=(f k t).2.world.drawn)->timerOp.named V E f=.ok (v,O)->D<=O.world.drawn:=λD V E f W h=>by
  grind [timerOp.named]
 unfold timerOp at h;split at h
 split at h
 cases h;exact aqb _;grind
 exact named _ _ _ _ (λk t=>Mg _ _ _ _ _) h;split at h
 rename_i m1 X;have h1:m.world.drawn<=m1.world.drawn:=by
  grind [timerOp.opened]
 exact aqp h1 (named m1.world.drawn _ _ _ (λk t=>Mg _ _ _ _ _) h);cases h;cases h;exact aqb _
theorem ZV (p:Program)(m:Machine)(i:Nat)(O:Bool):sLe m.world (Go.runT p m i O).1:=by
 unfold Go.runT
 extract_lets rest world
 split
 extract_lets wake fn pos s ops done
 have E:gLe m.world s:=ZU _ _ _ _ _;have hd:∀ r,(done r).1=r:=λr=>rfl
 clear_value s done
 split
 all_goals try rw[hd]
 trivial;split
 rename_i h;have:=H9 p rest ‹_› i ‹_› ‹_› ‹_› ‹_› ‹_›;rw[h]at this;exact sLe.trans E this;exact E;exact E;exact Vd trivial E;exact E;exact sLe.trans E (Ve _ _ _ _);exact E;exact E;split
 exact E;split
 rename_i h;cases h;exact E;trivial;trivial;split
 rename_i h;exact aqp E (TA h);exact E;trivial;trivial
theorem ZW (p:Program)(m:Machine)(k:Nat):sLe m.world (serve p m k):=by
 unfold serve;split
 trivial;exact aqb _
 extract_lets
 split
 trivial;exact aqb _
def mLe (w:World):Move->Prop
 | .goroutine m _=>w.drawn<=m.world.drawn| .machine s _=>sLe w s
theorem mLe.trans{w':World}{s:Move}(h1:w.drawn<=w'.drawn)(h:mLe w' s):mLe w s:=by
 cases s;exact aqp h1 h;exact sLe.trans h1 h
theorem H_ (p:Program)(m:Machine):mLe m.world (askOn p m):=by
 unfold askOn
 extract_lets mono rs ds pick
 have E:∀ O:Machine,m.world.drawn<=O.world.drawn->mLe m.world (pick O):=λO V=>by
  show mLe m.world (match (choose (.sched rs.length)).run p O.world with| .halt _ w=>_| .ok k world=>_);split
  trivial;rename_i h;have h1:=na h;split
  exact aqp V h1;split
  trivial;rename_i h2;have h2:=na h2;exact aqp V (aqp h1 h2)
 clear_value pick rs ds
 split
 trivial;rename_i h;have hw:=na h;split
 exact sLe.trans hw (ZW p _ _);cases rs with
 |nil=>
  dsimp only;split
  exact hw;split
  exact hw;split <;>trivial
 |cons r rs=>
  dsimp only;split
  grind
  split
  trivial;rename_i h;have h2:=na h;grind;rename_i h;have h2:=na h;exact aqp hw h2;rename_i h;have h2:=na h;exact E _ (aqp hw h2)
theorem QM (p:Program)(m:Machine):mLe m.world (ask p m):=by
 unfold ask;split
 split
 trivial;rename_i h;have hw:=na h;have:=Ve p m.gs m.rest ‹World›;split
 rename_i E h2;rw[h2]at this;exact mLe.trans (aqp hw this) (H_ p _);exact sLe.trans hw this;rename_i h;have hw:=na h;exact mLe.trans hw (H_ p _);exact H_ p m
theorem ac7 (p:Program)(m:Machine):mLe m.world (move p m):=by
 unfold move;split
 split
 exact aqb _;trivial;split
 split
 exact aqb _;exact QM p _;exact QM p m
theorem ac8 (p:Program)(m:Machine):sLe m.world (step p m):=by
 unfold step stepT;have:=ac7 p m;split
 rename_i h;rw[h]at this;exact sLe.trans this (ZV p _ _ _);rename_i h;rw[h]at this;exact this
theorem QN{E:Machine}(h:Steps p m E):m.world.drawn<=E.world.drawn:=by
 obtain⟨n,hn⟩:=h;induction n generalizing m with
 |zero=>grind [runN]
 |succ n V=>
  simp[runN]at hn;have:=ac8 p m;cases O:step p m with
  |next m1=>
   rw[O]at hn this;exact aqp this (V hn)
  |ended o w=>grind
theorem QO{P:Program}{f:FuncId}{args:Array Value}{R:Ending->World->Prop}(h:Calls P f args w R):Calls P f args w λe w'=>R e w'/\(e≠ .outgrown->w.drawn<=w'.drawn):=by
 intro cs;have⟨e,w',fr,hr,hc,hf,hl⟩:=h cs;refine⟨e,w',fr,⟨hr,λE=>?_⟩,hc,hf,hl⟩;cases e with
 |returned v=>exact QN (p:=P) hc|panicked c=>exact QN (p:=P) hc|outgrown=>grind
end Go.Sx
end
section
namespace Go.Sx
open Go.Lib Go.Proofs Go.RowKit Go.Shelf Go.Sort
def aeV:SV->Value
 | .v x=>x|_=>undef
def wa (k:Tag)(x:k.T):List Value:=(cellsOf k x).map aeV
def zM (k:Tag):Prop:= ∀ (x:k.T) (s:SV),s∈cellsOf k x->∃ v,s=.v v/\v.oneCell'=true
def srt {α:Type}(a:α->α->Int)(l:List α):List α:=l.mergeSort λx y=>!(ltOf a y x)
def apart {α:Type}(a:α->α->Int)(l:List α):Prop:= ∀ x∈l,∀ y∈l,ltOf a x y=false->ltOf a y x=false->x=y
def TC {α:Type}[Inhabited α]{cf:α->α->Int}(V:SWO (ltOf cf)){l:List α}(h:apart cf l){E:Array α}(hp:PermIn 0 l.toArray.size l.toArray E)(X:SortedIn (ltOf cf) 0 l.toArray.size E):E=(srt cf l).toArray:=by
 have⟨hsz,_,hperm⟩:=hp;have e1:E.extract 0 l.toArray.size=E:=XN
 rw[e1,Array.extract_size]at hperm;have:E.toList=srt cf l:=by
  refine aq0 (le:=λx y=>(!ltOf cf y x)=true) ?_ ?_ ?_ (hperm.trans (arc _ _).symm);intro a b Y hb h1 h2;simp[aqA]at h1 h2;exact h a (hperm.subset Y) b ((arc _ _).subset hb) h2 h1;rw[aqM];intro i j hi hj O;have:=X i j (aqq _) O XN;grind
  refine aq2 (λa b c h1 h2=>?_) (λa b=>?_) l;simp[aqA]at h1 h2 |-;exact V.ntrans c b a h2 h1;simp[aqG];cases h1:ltOf cf b a with
  |false=>grind
  |true=>
   right;cases h2:ltOf cf a b with
   |false=>rfl
   |true=>
    have W:=V.trans a b a h2 h1;rw[V.irrefl]at W;cases W
 rw[<-this]
section
variable {P:Program}{ρ:Ren}{F:Nat->Prop}{own:Own}{w:World}{k:Tag}
variable {l:List k.T}{o:Nat}{cs:Array Value}
theorem D5(W:zM k)(h:atT F own w k l o cs){i j:Nat}(hi:i<l.length)(X:j<ae k):cs[o+i*ae k+j]? =(wa k l[i])[j]?:=by
 have V:=aqf hi;have E:j< (cellsOf k l[i]).length:=by grind [cb]
 have O:=aqf E;have⟨u,h1,h2⟩:=h i _ V j _ O;have⟨v,h3,_⟩:=W l[i] _ (aqL E);rw[h1];unfold wa;rw[are,O];rw[h3]at h2 |-;rw[cV h2];rfl
theorem D6(V:zM k)(h:∀ i j,(hi:i<l.length)->j<ae k->cs[o+i*ae k+j]? =(wa k l[i])[j]?):atT F own w k l o cs:=by
 intro i x hi j s O;obtain⟨W,rfl⟩:=aqe.1 hi;have E:=(aqe.1 O).1;rw[cb]at E;have:=h i j W E;unfold wa at this;rw[are,O]at this;have⟨v,h3,_⟩:=V _ s (aql O);subst h3;exact⟨v,this,.v v⟩
theorem ac9 {w w':World}(O:Go.RowKit.Below w.heap.size w w')(hd:w.drawn<=w'.drawn):∃ q E,w'=grow (w.drewN q) E:=by
 refine⟨w'.drawn - w.drawn,w'.heap.extract w.heap.size w'.heap.size,?_⟩;have⟨h1,h2,h3,h4,h5⟩:=O;have⟨heap',tape',drawn',os',output'⟩:=w';unfold grow World.drewN;simp[World.mk.injEq];grind
end
end Go.Sx
end
