/- Part of the proof that the law RegisterOrder returns true and leaves its arguments as they were, for all arguments of bulk at most 1048576 (the Upto form). -/
import Derived.Test.YthcbieoehjhjfaaGreatQ211
import Derived.Test.YthcbieoehjhjfaaGreatQ209
import Derived.Test.YthcbieoehjhjfaaGreatQ208
import Derived.Test.YthcbieoehjhjfaaGreatQ207
import Derived.Deep.Slices
import Derived.OpenShut
import Derived.ChangeSame
import Derived.WideKeyArgs
import Derived.Below
import Derived.Test.YthcbieoehjhjfaaGreatRows
set_option linter.all false
set_option maxHeartbeats 4000000
set_option maxRecDepth 100000
section
namespace Go.Sx
open Go.Proofs
open IntKind (i64)
def ft:=({ no:=5,kind:=4,right:=0,since:=0,to:=0,parts:=[],of_:=3,at_:=0,known:=9}:Deed)
def fu:=([({ no:=1,kind:=3,right:=0,since:=2,to:=0,parts:=[],of_:=0,at_:=0,known:=0}:Deed)])
def eB:=(eA aP fu 0)
def eD:=(eB.1)
def eE:=(eD.length:Int)
def eF:=({ no:=3,kind:=2,right:=0,since:=0,to:=0,parts:=[({ farm:=1,share:=iz}:Part),({ farm:=2,share:=iz}:Part)],of_:=0,at_:=1,known:=2}:Deed)
def eG:=([eF])
def fv:=(al aP eG ft)
def bj:=(fv.1)
def cT:=(bj.length:Int)
def fw:=(bj.getD 1 (default:Deed))
def fA:=(cS aP bj 1 9)
def fB:=(cS aP bj 1 2)
def fC:=(cS aP bj 0 2)
def dV:=(fB.1)
def fD:=(fA.1)
def fE:=(fC.1)
def fb:=(fD.length:Int)
def eh:=(dV.length:Int)
def fc:=(fE.length:Int)
def cV:=(dV.getD 1 (default:Holding))
def b7:=(dV.getD 0 (default:Holding))
def bh:=(fD.getD 0 (default:Holding))
def aR:=(fE.getD 0 (default:Holding))
def ii:=(al aP bj eF)
def jD:=((bj.take (Int.toNat cT)).drop 1)
def fX:=(ah aP jD)
def jv:Bool:=(bif((((((((((((fv.2 !=0) ||(ii.2 !=171)) ||(fC.2 !=0)) ||(fB.2 !=0)) ||(fA.2 !=0)) ||((cS aP ([]) 4 0).2 !=1)) ||(eB.2 !=0)) ||(cT !=2)) ||(fc !=1)) ||(eh !=2)) ||(fb !=1)) ||(eE !=1))then false else(bif((fX !=250) ||(fw.no !=5))then false else((((((aR.right==0)&&((aR.farm==0)&&((aR.litres==5)&&(aR.rank==7))))&&((bh.right==0)&&((bh.farm==0)&&((bh.litres==5)&&(bh.rank==7)))))&&((b7.right==0)&&((b7.farm==1)&&((b7.litres==3)&&(b7.rank==7)))))&&((cV.right==0)&&((cV.farm==2)&&((cV.litres==2)&&(cV.rank==7)))))&&((eD.getD 0 0) ==1))))
def jc:Prop:=((cA aP eG ft)/\((cA aP bj eF)/\((fa aP bj 0 2)/\((fa aP bj 1 2)/\((fa aP bj 1 9)/\((fa aP ([]) 4 0)/\((gO aP fu 0)/\(((((((((((((fv.2 !=0) ||(ii.2 !=171)) ||(fC.2 !=0)) ||(fB.2 !=0)) ||(fA.2 !=0)) ||((cS aP ([]) 4 0).2 !=1)) ||(eB.2 !=0)) ||(cT !=2)) ||(fc !=1)) ||(eh !=2)) ||(fb !=1)) ||(eE !=1))=false->((0<=1/\1<=cT/\cT<=cT)/\((cX aP jD)/\(((fX !=250)=false->(0<=1/\1<cT))/\(((fX !=250) ||(fw.no !=5))=false->((0<=0/\0<fc)/\((((aR.right==0)&&((aR.farm==0)&&((aR.litres==5)&&(aR.rank==7))))=true->(0<=0/\0<fb))/\(((((aR.right==0)&&((aR.farm==0)&&((aR.litres==5)&&(aR.rank==7))))&&((bh.right==0)&&((bh.farm==0)&&((bh.litres==5)&&(bh.rank==7)))))=true->(0<=0/\0<eh))/\((((((aR.right==0)&&((aR.farm==0)&&((aR.litres==5)&&(aR.rank==7))))&&((bh.right==0)&&((bh.farm==0)&&((bh.litres==5)&&(bh.rank==7)))))&&((b7.right==0)&&((b7.farm==1)&&((b7.litres==3)&&(b7.rank==7)))))=true->(0<=1/\1<eh))/\((((((aR.right==0)&&((aR.farm==0)&&((aR.litres==5)&&(aR.rank==7))))&&((bh.right==0)&&((bh.farm==0)&&((bh.litres==5)&&(bh.rank==7)))))&&((b7.right==0)&&((b7.farm==1)&&((b7.litres==3)&&(b7.rank==7)))))&&((cV.right==0)&&((cV.farm==2)&&((cV.litres==2)&&(cV.rank==7)))))=true->(0<=0/\0<eE))))))))))))))))))
@[go_sem] def qm:List SV->Option Con:=(pE (.det (jc) (.v (.bool (jv)))))
theorem uH:FnOk Tryz.prog 11 qm:=by
 have hG:ConsOk Tryz.prog (mkG [(13,fun l=>iV (dJ [.st .district,.sl .deed,.st .deed] l)),(15,fun l=>ei (dJ [.st .district,.sl .deed] l)),(18,fun l=>oG (dJ [.st .district,.sl .deed,.o,.o] l)),(20,fun l=>mh (dJ [.st .district,.sl .deed,.o] l)),(33,oH),(34,qk)] [(13,CN (fun l=>iV (dJ [.st .district,.sl .deed,.st .deed] l)))]):=aV (cgc (ka.norm [.st .district,.sl .deed,.st .deed]) (cgc (eX.norm [.st .district,.sl .deed]) (cgc (uf.norm [.st .district,.sl .deed,.o,.o]) (cgc (qi.norm [.st .district,.sl .deed,.o]) (cgc uh (cgc uE cg0)))))) (cgc (FnOk.eat (ka.norm [.st .district,.sl .deed,.st .deed])) cg0);refine cj [.o] mixed aC hG (fn:=Tryz.f11) (c:=ag Tryz.f11) kr kr kr kr (bw (fun hp=>?_));dsimp only[bb]at hp;unfold jc at hp;try simp only[ft,fu,eB,eD,eE,eF,eG,fv,bj,cT,fw,fA,fB,fC,dV,fD,fE,fb,eh,fc,cV,b7,bh,aR,ii,jD,fX]at hp
 refine⟨nbl rfl,L0,ak _,?_⟩
 ·unfold ag Tryz.f11;try unfold jv
  simp (maxSteps:=1000000) only[go_sem,Nat.reduceBEq,Nat.reduceLeDiff,Nat.reduceLT,decide_true,Nat.reduceAdd,Nat.reduceSub,Nat.reduceMul,Int.reduceLE,Int.reduceLT,Int.reduceToNat,Int.reduceNeg,reduceCtorEq,ft,fu,eB,eD,eE,eF,eG,fv,bj,cT,fw,fA,fB,fC,dV,fD,fE,fb,eh,fc,cV,b7,bh,aR,ii,jD,fX];all_goals exact cl
theorem yX (d:District)(l:List Deed)(known:Int):gO d l known/\
  eA d l known=if ah d l≠0 then([],ah d l)else if 0<=known/\known<=1048576 then(qg (CI (stS (rX l 4096 known)) (B0 d)),0)else([],1):=by
 by_cases hc:ah d l=0
 ·have hD:=mb hc;have hE:=((qZ d l).1 hc).1;have hw:(!(aJ known 0 1048576))= !decide (0<=known/\known<=1048576):=by
   congr 1
   rw[Bool.eq_iff_iff,o6,decide_eq_true_eq]
  obtain⟨c1,c2⟩:=rJ l 4096 known hD.len;have hlen:(stS (rX l 4096 known)).length<=512:=by rw[BC];exact Nat.le_trans (List.length_filter_le _ _) hD.len
  obtain⟨f1,m,f2,f3,f4⟩:=vO hE (ug hD 4096 known) hlen;refine⟨⟨fT d l,fun _ _=>⟨c1,by rw[c2];exact f1⟩⟩,?_⟩;unfold eA;rw[if_neg (by simp[hc]),hc,hw,c2,f2];simp only[bne_self_eq_false,cond_false];by_cases hg:0<=known/\known<=1048576
  ·rw[decide_eq_true hg,if_pos hg];rfl
  ·rw[decide_eq_false hg,if_neg hg];rfl
 ·have hne:(ah d l !=0)=true:=by simpa using hc
  refine⟨⟨fT d l,(fun h=>by rw[hne]at h;cases h)⟩,?_⟩;rw[if_pos hc];unfold eA;rw[hne];rfl
theorem KN (a:Deed)(n:Int):decide (dS a n<0)=decide (a.no<n):=by
 unfold dS;rw[lw];by_cases h:a.no<n
 ·simp[h]
 ·by_cases h2:a.no > n <;>simp[h,h2]
theorem KO (a:Deed)(n:Int):(dS a n==0)=decide (a.no=n):=by
 unfold dS;rw[lw];by_cases h:a.no<n
 ·have:¬a.no=n:=by omega
  simp[h,this]
 ·by_cases h2:a.no > n
  ·have:¬a.no=n:=by omega
   simp[h,h2,this]
  ·have:a.no=n:=by omega
   simp[this]
theorem yY {l:List Deed}(h:Asc l){i j:Nat}(h1:i<j)(h2:j<l.length):(l.getD i default).no< (l.getD j default).no:=by
 rw[i9 l _ (by omega),i9 l _ h2];exact List.pairwise_iff_getElem.1 h i j (by omega) h2 h1
theorem Fj {l:List Deed}(hA:Asc l)(hl:l.length<=4096)(n:Int):bq l n/\∃ q:Nat,q<=l.length/\aj l n=((q:Int),decide (q<l.length/\(l.getD q default).no=n))/\(∀ i,i<q->(l.getD i default).no<n)/\∀ i,q<=i->i<l.length->n<=(l.getD i default).no:=by
 obtain⟨s1,r,s2,q,rfl,q1,q2,q3,q4⟩:=w8 (step:=ar l n) (p:=az l n) (fun h=>decide ((l.getD h default).no<n)) 0 l.length (Nat.zero_le _)
  (fun i j h1 h2 h3 h4=>by
   simp only[decide_eq_true_eq]at h4 |-;rcases Nat.eq_or_lt_of_le h2 with rfl|h2
   ·exact h4
   ·have:=yY hA h2 h3;omega)
  (fun k i j h1 h2 h3=>by
   have e:decide ((i:Int) < (j:Int))=true:=by rw[decide_eq_true_eq];omega
   unfold az ar;simp only[yI (i:=i) (j:=j) (by omega) (by omega),e,cond_true,Int.toNat_natCast,KN];have w2:i64.wrap ((((i+j) / 2:Nat):Int)+1)=(((i+j) / 2+1:Nat):Int):=by rw[bB (by omega) (by omega)];omega
   rw[w2];exact⟨fun _=>by omega,rfl⟩)
  (fun k i=>by
   have e:decide ((i:Int) < (i:Int))=false:=by simp
   unfold az ar;simp only[e,cond_false];exact⟨fun h=>by simp at h,trivial⟩) (l.length+1) 0 (by omega)
 have s2':aq (ar l n) (l.length+1) 0 (0,(l.length:Int))=.inl (q:Int):=s2;refine⟨fun _=>⟨s1,(fun z h=>by rw[s2']at h;cases h),fun x hx h=>?_⟩,q,q2,?_,fun i hi=>?_,fun i h1 h2=>?_⟩
 ·rw[s2']at hx;cases hx;rw[decide_eq_true_eq]at h;omega
 ·unfold aj;rw[s2'];simp only[Int.toNat_natCast,KO];rw[Prod.mk.injEq];refine⟨rfl,?_⟩;rw[Bool.eq_iff_iff,Bool.and_eq_true,decide_eq_true_eq,decide_eq_true_eq,decide_eq_true_eq];omega
 ·simpa using q3 i (Nat.zero_le _) hi
 ·have:=q4 i h1 h2;simp only[decide_eq_false_iff_not]at this;omega
abbrev exS:Deed:= { no:=3,kind:=2,right:=0,since:=0,to:=0,parts:=[{ farm:=1,share:=iz},{ farm:=2,share:=iz}],of_:=0,at_:=1,known:=2}
abbrev exV:Deed:= { no:=5,kind:=4,right:=0,since:=0,to:=0,parts:=[],of_:=3,at_:=0,known:=9}
theorem e19:fv=([exS,exV],0):=by kernel_rfl
theorem e18:bj=[exS,exV]:=by kernel_rfl
theorem e2:ii=([],171):=by kernel_rfl
theorem eC:ah aP [exS,exV]=0:=by kernel_rfl
theorem eH (hour known:Int)(L:List Holding)(h1:decide (0<=hour/\hour<aP.hours/\0<=known/\known<=1048576)=true)(h2:k9 aP (rL aP [exS,exV] hour known)=L):cS aP bj hour known=(L,0):=by
 rw[e18,(vQ _ _ _ _).2,if_neg (by rw[eC];decide),if_pos (of_decide_eq_true h1),h2]
theorem e13:fC=([{ right:=0,farm:=0,litres:=5,rank:=7}],0):=eH 0 2 _ kr kr
theorem e14:fB=([{ right:=0,farm:=1,litres:=3,rank:=7},{ right:=0,farm:=2,litres:=2,rank:=7}],0):=eH 1 2 _ kr kr
theorem e15:fA=([{ right:=0,farm:=0,litres:=5,rank:=7}],0):=eH 1 9 _ kr kr
theorem eN:cS aP [] 4 0=([],1):=by
 have hc:ah aP []=0:=by kernel_rfl
 rw[(vQ _ _ _ _).2,if_neg (by rw[hc];decide),if_neg (of_decide_eq_false kr)]
theorem e24:eB=([1],0):=by
 have hc:ah aP fu=0:=by kernel_rfl
 have he:CI (stS (rX fu 4096 0)) (B0 aP)=[1]:=by kernel_rfl
 unfold eB;rw[(yX _ _ _).2,if_neg (by rw[hc];decide),if_pos (by decide),he];simp[qg]
theorem e0:fX=250:=by kernel_rfl
theorem e7:fc=1:=by unfold fc fE;rw[e13];rfl
theorem e8:eh=2:=by unfold eh dV;rw[e14];rfl
theorem e9:fb=1:=by unfold fb fD;rw[e15];rfl
theorem e17:cT=2:=by unfold cT;rw[e18];rfl
theorem e22:eE=1:=by unfold eE eD;rw[e24];rfl
theorem e3':aR= { right:=0,farm:=0,litres:=5,rank:=7}:=by unfold aR fE;rw[e13];rfl
theorem e4':bh= { right:=0,farm:=0,litres:=5,rank:=7}:=by unfold bh fD;rw[e15];rfl
theorem e5':b7= { right:=0,farm:=1,litres:=3,rank:=7}:=by unfold b7 dV;rw[e14];rfl
theorem e6':cV= { right:=0,farm:=2,litres:=2,rank:=7}:=by unfold cV dV;rw[e14];rfl
theorem e16:fw=exV:=by unfold fw;rw[e18];rfl
theorem e23:eD=[1]:=by unfold eD;rw[e24]
theorem KP:jv=true:=by
 unfold jv;rw[e19,e2,e13,e14,e15,eN,e24,e17,e7,e8,e9,e22,e0,e16,e3',e4',e5',e6',e23];rfl
theorem KQ:cA aP eG ft:=by
 refine⟨fT _ _,fun _=>?_⟩;have hA:Asc eG:=List.pairwise_singleton _ _;refine⟨(Fj hA (by decide) _).1,fun _=>⟨by decide,?_,fT _ _⟩⟩;have e:(aj eG ft.no).1=1:=by kernel_rfl
 rw[e];exact⟨by decide,by simp,by decide⟩
theorem KR:cA aP bj eF:=by
 refine⟨fT _ _,fun _=>?_⟩;have hA:Asc bj:=by rw[e18];exact(mb eC).asc
 refine⟨(Fj hA (by rw[e18];decide) _).1,fun h=>?_⟩;have:(aj bj eF.no).2=true:=by kernel_rfl
 rw[this]at h;cases h
theorem xl:jc:=by
 unfold jc;refine⟨KQ,KR,(vQ _ _ _ _).1,(vQ _ _ _ _).1,(vQ _ _ _ _).1,(vQ _ _ _ _).1,(yX _ _ _).1,fun _=>?_⟩;rw[e17,e7,e8,e9];simp[fT,e22]



@[go_sem] def eZ (a0:Deed)(a1:Deed)(k_0:Nat)(s_0:Unit):Unit⊕Unit:=letI q0:=a0.parts.getD k_0 default;letI q1:=a1.parts.getD k_0 default;(bif(!((q0.farm==q1.farm)&&((q0.share.n==q1.share.n)&&(q0.share.d==q1.share.d))))then .inl ()else .inr ())
def g7 (a0:Deed)(a1:Deed)(k_0:Nat)(s_0:Unit):Prop:=(a0.parts.length<=bR->(0<=(k_0:Int)/\(k_0:Int) < (a1.parts.length:Int)))
def a_ (a0:Deed)(a1:Deed):Bool:=(bif(((((((((a0.no !=a1.no) ||(a0.kind !=a1.kind)) ||(a0.right !=a1.right)) ||(a0.since !=a1.since)) ||(a0.to !=a1.to)) ||(a0.of_ !=a1.of_)) ||(a0.at_ !=a1.at_)) ||(a0.known !=a1.known)) ||((a0.parts.length:Int) !=(a1.parts.length:Int)))then false else(match aq (eZ a0 a1) a0.parts.length 0 ()with| .inl x_0_0=>false| .inr s_0=>true))
def fF (a0:Deed)(a1:Deed):Prop:=((((((((((a0.no !=a1.no) ||(a0.kind !=a1.kind)) ||(a0.right !=a1.right)) ||(a0.since !=a1.since)) ||(a0.to !=a1.to)) ||(a0.of_ !=a1.of_)) ||(a0.at_ !=a1.at_)) ||(a0.known !=a1.known)) ||((a0.parts.length:Int) !=(a1.parts.length:Int)))=false->okI (eZ a0 a1) (g7 a0 a1) a0.parts.length 0 ())
@[go_sem] def jw:List SV->Option Con:=(pD .deed fun a0=>(pD .deed fun a1=>(pE (.det (fF a0 a1) (.v (.bool (a_ a0 a1)))))))
theorem lA:FnOk Tryz.prog 30 jw:=by
 have hG:ConsOk Tryz.prog (mkG [] []):=aV cg0 cg0;refine cj [.o] mixed aC hG (fn:=Tryz.f30) (c:=ag Tryz.f30) kr kr kr kr (cq fun a0=>(cq fun a1=>(bw (fun hp=>?_))));dsimp only[bb]at hp;unfold fF at hp;refine⟨nbl rfl,(fun id st=>bif Nat.beq id 0 then some (LCR (ρ:=Unit) (σ:=Unit) 2 [] [0,1] (fun k_0 s_0=>⟨[(2,.ptr 0 0),(3,.ptr 1 0),(5,.v (.int .i64 (k_0:Int)))],[.cells (cellsOf .deed a0),.cells (cellsOf .deed a1)]⟩) (eZ a0 a1) (g7 a0 a1) a0.parts.length () (True) (fun _=>.ret) (fun x_0_0=>⟨[(4,.v (.bool false))],[.dead,.dead]⟩) st)else none),?_,?_⟩
 ·unfold ag Tryz.f30;simp only[ap,true_and,and_true]
  ·refine tN (a0.parts.length<=bR) mixed aC hG kr (fun _=>rfl) (a0.parts.length:Int) rfl mT (fun hb0 k_0 s_0 hlt0 hq0 hw hc=>⟨L0,ak _,?_⟩) (fun hb0 s_0 hc=>?_) fun hb0 k_0 s_0=>?_
   ·unfold g7 at hq0;try simp only[hw,Int.toNat_natCast]at hq0
    exact dH (jl [0,1])
   ·exact dI (jl [0,1])
   ·exact zq7
 ·unfold ag Tryz.f30;try unfold a_
  exact zq1
@[go_sem] def ij (a:List Deed)(b:List Deed)(k_0:Nat)(s_0:Unit):Unit⊕Unit:=(bif(!(a_ (a.getD k_0 default) (b.getD k_0 default)))then .inl ()else .inr ())
def ke (a:List Deed)(b:List Deed)(k_0:Nat)(s_0:Unit):Prop:=(a.length<=bR->((0<=(k_0:Int)/\(k_0:Int) < (b.length:Int))/\(fF (a.getD k_0 default) (b.getD k_0 default))))
def iA (a:List Deed)(b:List Deed):Bool:=(bif((a.length:Int) !=(b.length:Int))then false else(match aq (ij a b) a.length 0 ()with| .inl x_0_0=>false| .inr s_0=>true))
def je (a:List Deed)(b:List Deed):Prop:=(a.length<=bR->(b.length<=bR->(((a.length:Int) !=(b.length:Int))=false->okI (ij a b) (ke a b) a.length 0 ())))
@[go_sem] def qn:List SV->Option Con:=(pR .deed fun a=>(pR .deed fun b=>(pE (.det (je a b) (.v (.bool (iA a b)))))))
theorem uI:FnOk Tryz.prog 17 qn:=by
 have hG:ConsOk Tryz.prog (mkG [(30,fun l=>jw (dJ [.st .deed,.st .deed] l))] []):=aV (cgc (lA.norm [.st .deed,.st .deed]) cg0) cg0;refine cj [.o] mixed aC hG (fn:=Tryz.f17) (c:=ag Tryz.f17) kr kr kr kr (gn fun a=>(gn fun b=>(bw (fun hp=>?_))));dsimp only[bb]at hp;unfold je at hp;refine⟨nbl rfl,(fun id st=>bif Nat.beq id 0 then some (LCR (ρ:=Unit) (σ:=Unit) 0 [] [] (fun k_0 s_0=>⟨[(0,.rs .deed a),(1,.rs .deed b),(5,.v (.int .i64 (k_0:Int)))],[]⟩) (ij a b) (ke a b) a.length () (True) (fun _=>.ret) (fun x_0_0=>⟨[(4,.v (.bool false))],[]⟩) st)else none),?_,?_⟩
 ·unfold ag Tryz.f17;simp only[ap,true_and,and_true]
  ·refine tN (a.length<=bR) mixed aC hG kr (fun _=>rfl) (a.length:Int) rfl mT (fun hb0 k_0 s_0 hlt0 hq0 hw hc=>⟨L0,ak _,?_⟩) (fun hb0 s_0 hc=>?_) fun hb0 k_0 s_0=>?_
   ·unfold ke at hq0;try simp only[hw,Int.toNat_natCast]at hq0
    exact dH (jl [])
   ·exact dI (jl [])
   ·exact zq7
 ·unfold ag Tryz.f17;try unfold iA
  exact zq1
@[go_sem] def qo (l_:List Deed)(k_0:Nat)(s_0:Unit):Unit⊕Unit:=(bif(decide ((((l_.getD k_0 default).parts).length:Int) > 100))then .inl ()else .inr ())
def ml (d:District)(l_:List Deed):Bool:=letI q0:=(l_.length:Int);letI q1:=(d.rights.length:Int);letI q2:=(d.farms.length:Int);(bif((decide (q0 > 512))&&(decide (q0<=700)))then(nU d)else(bif((((decide (q0 > 60)) ||(!(nU d))) ||((decide (q1 > 40))&&(decide (q1<=256)))) ||((decide (q2 > 60))&&(decide (q2<=600))))then false else(match aq (qo l_) l_.length 0 ()with| .inl x_0_0=>false| .inr s_0=>true)))
@[go_sem] def rM:List SV->Option Con:=(pD .district fun d=>(pR .deed fun l_=>(pE (.det True (.v (.bool (ml d l_)))))))
theorem xm:FnOk Tryz.prog 12 rM:=by
 have hG:ConsOk Tryz.prog (mkG [(35,fun l=>rC (dJ [.st .district] l))] []):=aV (cgc (wU.norm [.st .district]) cg0) cg0;refine cj [.o] mixed aC hG (fn:=Tryz.f12) (c:=ag Tryz.f12) kr kr kr kr (cq fun d=>(gn fun l_=>(bw (fun hp=>?_))));dsimp only[bb]at hp;refine⟨nbl rfl,(fun id st=>bif Nat.beq id 0 then some (LCR (ρ:=Unit) (σ:=Unit) 1 [] [0] (fun k_0 s_0=>⟨[(1,.rs .deed l_),(5,.v (.int .i64 (k_0:Int)))],[.dead]⟩) (qo l_) pT l_.length () (True) (fun _=>.ret) (fun x_0_0=>⟨[(4,.v (.bool false))],[.dead]⟩) st)else none),?_,?_⟩
 ·unfold ag Tryz.f12;simp only[ap,true_and,and_true]
  ·refine tN (l_.length<=bR) mixed aC hG kr (fun _=>rfl) (l_.length:Int) rfl mT (fun hb0 k_0 s_0 hlt0 _ hw hc=>⟨L0,ak _,?_⟩) (fun hb0 s_0 hc=>?_) fun hb0 k_0 s_0=>?_
   ·exact dH (jl [0])
   ·exact dI (jl [0])
   ·exact zq7
 ·unfold ag Tryz.f12;try unfold ml
  exact zq1
def dX (x:Deed)(l:List Deed):List Deed:=l.filter (fun y=>decide (y.no<x.no))++x::l.filter (fun y=>!decide (y.no<x.no))
theorem Fk (x:Deed)(l:List Deed):(dX x l).length=l.length+1:=by
 unfold dX;rw[List.length_append,List.length_cons];have:=List.length_eq_countP_add_countP (l:=l) (fun y=>decide (y.no<x.no));simp only[List.countP_eq_length_filter,decide_not,Bool.decide_eq_true]at this;omega
theorem yZ {x y:Deed}{l:List Deed}:y∈dX x l↔y=x\/y∈l:=by
 unfold dX;simp only[List.mem_append,List.mem_cons,List.mem_filter];by_cases h:y.no<x.no <;>simp[h,or_comm]
theorem CO {l:List Deed}(hA:Asc l){q:Nat}(n:Int)(h1:∀ i,i<q->(l.getD i default).no<n)(h2:∀ i,q<=i->i<l.length->n<=(l.getD i default).no)(hq:q<=l.length):
  l.take q=l.filter (fun y=>decide (y.no<n))/\l.drop q=l.filter (fun y=>!decide (y.no<n)):=by
 have e1:∀ y∈l.take q,y.no<n:=fun y hy=>by
  obtain⟨i,hi,e⟩:=List.getElem_of_mem hy;rw[List.length_take]at hi;have:=h1 i (by omega);rw[i9 l _ (by omega)]at this;rw[List.getElem_take]at e;rw[<-e];exact this
 have e2:∀ y∈l.drop q,¬y.no<n:=fun y hy=>by
  obtain⟨i,hi,e⟩:=List.getElem_of_mem hy;rw[List.length_drop]at hi;have:=h2 (q+i) (by omega) (by omega);rw[i9 l _ (by omega)]at this;rw[List.getElem_drop]at e;rw[<-e];omega
 have key:∀ p:Deed->Bool,l.filter p=(l.take q).filter p++(l.drop q).filter p:=fun p=>by rw[<-List.filter_append,List.take_append_drop]
 constructor
 ·rw[key,List.filter_eq_self.2 fun y hy=>by simpa using e1 y hy,List.filter_eq_nil_iff.2 fun y hy=>by simpa using e2 y hy,List.append_nil]
 ·rw[key,List.filter_eq_nil_iff.2 fun y hy=>by simpa using e1 y hy,List.filter_eq_self.2 fun y hy=>by simpa using e2 y hy,List.nil_append]
theorem Ax {l:List Deed}(hA:Asc l){q:Nat}(x:Deed)(h1:∀ i,i<q->(l.getD i default).no<x.no)(h2:∀ i,q<=i->i<l.length->x.no<=(l.getD i default).no)(hq:q<=l.length):l.take q++x::l.drop q=dX x l:=by
 obtain⟨e1,e2⟩:=CO hA x.no h1 h2 hq;unfold dX;rw[e1,e2]
theorem CP {l:List Deed}(hA:Asc l){q:Nat}{n:Int}(h1:∀ i,i<q->(l.getD i default).no<n)(h2:∀ i,q<=i->i<l.length->n<=(l.getD i default).no):(q<l.length/\(l.getD q default).no=n)↔∃ y∈l,y.no=n:=by
 constructor
 ·rintro⟨h,e⟩;exact⟨l.getD q default,by rw[i9 l _ h];exact List.getElem_mem h,e⟩
 ·rintro⟨y,hy,e⟩;obtain⟨i,hi,e'⟩:=List.getElem_of_mem hy;have hi':(l.getD i default).no=n:=by rw[i9 l _ hi,e',e]
  rcases Nat.lt_or_ge i q with h|h
  ·have:=h1 i h;omega
  ·rcases Nat.eq_or_lt_of_le h with rfl|h
   ·exact⟨hi,hi'⟩
   ·have:=yY hA h hi;have:=h2 q (Nat.le_refl _) (by omega);omega
def qp (d:District)(l:List Deed)(x:Deed):List Deed×Int:=
 if ah d l≠0 then([],ah d l)else if(∃ y∈l,y.no=x.no)then([],171)else if ah d (dX x l)≠0 then([],ah d (dX x l))else(dX x l,0)
theorem lB (d:District)(l:List Deed)(x:Deed):cA d l x/\al d l x=qp d l x:=by
 unfold qp;by_cases hc:ah d l=0
 ·have hD:=mb hc;obtain⟨b1,q,q1,q2,q3,q4⟩:=Fj hD.asc (Nat.le_trans hD.len (by decide)) x.no;have hins:nF (q:Int) l [x]=dX x l:=by
   unfold nF;rw[Int.toNat_natCast,<-Ax hD.asc x q3 q4 q1];rfl
  have hl:=hD.len;have hmB:fY=140737488355328:=rfl;have hh:decide (q<l.length/\(l.getD q default).no=x.no)=decide (∃ y∈l,y.no=x.no):=decide_eq_decide.2 (CP hD.asc q3 q4);rw[hh]at q2;refine⟨⟨fT d l,fun _=>⟨b1,fun _=>⟨by rw[hmB];omega,?_,fT _ _⟩⟩⟩,?_⟩
  ·rw[q2];exact⟨⟨by omega,by omega⟩,by simp,by rw[hmB];simp only[List.length_cons,List.length_nil];omega⟩
  ·unfold al;rw[if_neg (by simp[hc]),hc,q2,hins];simp only[bne_self_eq_false,cond_false];by_cases hx:∃ y∈l,y.no=x.no
   ·rw[decide_eq_true hx,if_pos hx];rfl
   ·rw[decide_eq_false hx,if_neg hx];simp only[cond_false];by_cases hy:ah d (dX x l)=0
    ·rw[if_neg (by simp[hy]),hy];rfl
    ·have hne:(ah d (dX x l) !=0)=true:=by simpa using hy
     rw[if_pos hy,hne];rfl
 ·have hne:(ah d l !=0)=true:=by simpa using hc
  refine⟨⟨fT d l,fun h=>by rw[hne]at h;cases h⟩,?_⟩;unfold al;rw[if_pos hc,hne];rfl
theorem Fl (a b:Deed):fF a b:=fun h=>mB _ _ _ fun j _ _ hj _=>by
 simp only[Bool.or_eq_false_iff]at h;have:=h.2;simp at this;omega
theorem rb (a:Deed):a_ a a=true:=by
 unfold a_;have e:aq (eZ a a) a.parts.length 0 ()=.inr ():=i6.2 fun j _=>by
  unfold eZ;simp
 rw[e];simp
theorem Fo (a b:List Deed):je a b:=fun _ _ h=>mB _ _ _ fun j _ _ hj _=>by
 simp at h;exact⟨by omega,Fl _ _⟩
theorem vR (a:List Deed):iA a a=true:=by
 unfold iA;have e:aq (ij a a) a.length 0 ()=.inr ():=i6.2 fun j _=>by
  unfold ij;simp[rb]
 rw[e];simp


end Go.Sx
end
section
namespace Go.Sx
@[go_sem] theorem O0 {te:TI}{nx:Nat}{h:List Ob}{s:SV}:gE te nx h [.any,s]=.bad:=(rfl)
@[go_sem] theorem Rl {t:Tag}{f:List t.T->List SV->Option Con}{l:List SV}:pR t f (.any::l)=none:=(rfl)
end Go.Sx
end
section
namespace Go.Sx
open Go.Proofs
open IntKind (i64)
@[go_sem] def c7 (a1:List Deed)(a2:Deed)(k_0:Nat)(s_0:Int):Int⊕Int:=(bif((decide (s_0< (a1.length:Int)))&&(decide ((a1.getD (Int.toNat s_0) default).no<a2.no)))then .inr (i64.wrap (s_0+1))else .inl s_0)
def dO (a1:List Deed)(a2:Deed)(k_0:Nat)(s_0:Int):Prop:=(a1.length<=bR->((decide (s_0< (a1.length:Int)))=true->(0<=s_0/\s_0< (a1.length:Int))))
def dC (a0:District)(a1:List Deed)(a2:Deed)(a3:Deed):Bool:=letI q1:=al a0 a1 a3;letI q4:=al a0 (q1.1) a2;letI q5:=al a0 a1 a2;letI q0:=q5.1;letI q2:=al a0 q0 a3;letI q3:=(q0.length:Int);(bif(!jv)then false else(bif(((!(ml a0 a1)) ||(decide ((a2.parts.length:Int) > 100))) ||(decide ((a3.parts.length:Int) > 100)))then true else(bif(q5.2 !=0)then(q3==0)else(bif(((ah a0 q0) !=0) ||(q3 !=(i64.wrap ((a1.length:Int)+1))))then false else(match aq (c7 a1 a2) (a1.length+1) 0 0 with| .inl x_0_0=>(bif(!(a_ (q0.getD (Int.toNat x_0_0) default) a2))then false else(bif(!(a_ (q0.getD (Int.toNat x_0_0) default) a2))then false else(bif((!(a_ (q0.getD (Int.toNat x_0_0) default) a2)) ||(!(iA ((([])++((q0.take (Int.toNat x_0_0)).drop 0))++((q0.take (Int.toNat q3)).drop (Int.toNat (i64.wrap (x_0_0+1))))) a1)))then false else(bif((q1.2 !=0) ||(q2.2 !=0))then(((q1.2==0) ||(((q1.1).length:Int) ==0))&&((q2.2==0) ||(((q2.1).length:Int) ==0)))else((q4.2==0)&&(iA (q2.1) (q4.1))))))) | .inr s_0=>default)))))
def dh (a0:District)(a1:List Deed)(a2:Deed)(a3:Deed):Prop:=letI q3:=al a0 a1 a3;letI q4:=c7 a1 a2;letI q5:=a1.length+1;letI q6:=al a0 (q3.1) a2;letI q7:=al a0 a1 a2;letI q0:=q7.1;letI q1:=(q0.length:Int);letI q2:=q0.take (Int.toNat q1);letI q8:=al a0 q0 a3;((jc)/\((!jv)=false->((((!(ml a0 a1)) ||(decide ((a2.parts.length:Int) > 100))) ||(decide ((a3.parts.length:Int) > 100)))=false->((cA a0 a1 a2)/\((q7.2 !=0)=false->((cX a0 q0)/\((((ah a0 q0) !=0) ||(q1 !=(i64.wrap ((a1.length:Int)+1))))=false->(okI q4 (dO a1 a2) q5 0 0/\(∀ z_,aq q4 q5 0 0≠ .inr z_)/\(∀ x_0_0,aq q4 q5 0 0=.inl x_0_0->((0<=x_0_0/\x_0_0<q1)/\((fF (q0.getD (Int.toNat x_0_0) default) a2)/\(((!(a_ (q0.getD (Int.toNat x_0_0) default) a2))=false->(0<=0/\0<=x_0_0/\x_0_0<=q1))/\(((!(a_ (q0.getD (Int.toNat x_0_0) default) a2))=true->(((!(a_ (q0.getD (Int.toNat x_0_0) default) a2))=false->(0<=(i64.wrap (x_0_0+1))/\(i64.wrap (x_0_0+1))<=q1/\q1<=q1))/\((!(a_ (q0.getD (Int.toNat x_0_0) default) a2))=true)))/\((!(a_ (q0.getD (Int.toNat x_0_0) default) a2))=false->(((([])++((q0.take (Int.toNat x_0_0)).drop 0)).length*88<=fY)/\((([])++((q0.take (Int.toNat x_0_0)).drop 0)).length<=bR->(((!(a_ (q0.getD (Int.toNat x_0_0) default) a2))=false->(0<=(i64.wrap (x_0_0+1))/\(i64.wrap (x_0_0+1))<=q1/\q1<=q1))/\(((!(a_ (q0.getD (Int.toNat x_0_0) default) a2))=true->((!(a_ (q0.getD (Int.toNat x_0_0) default) a2))=true))/\((!(a_ (q0.getD (Int.toNat x_0_0) default) a2))=false->((((([])++((q0.take (Int.toNat x_0_0)).drop 0))++(q2.drop (Int.toNat (i64.wrap (x_0_0+1))))).length*88<=fY)/\(((([])++((q0.take (Int.toNat x_0_0)).drop 0))++(q2.drop (Int.toNat (i64.wrap (x_0_0+1))))).length<=bR->(((!(a_ (q0.getD (Int.toNat x_0_0) default) a2))=false->(je ((([])++((q0.take (Int.toNat x_0_0)).drop 0))++(q2.drop (Int.toNat (i64.wrap (x_0_0+1))))) a1))/\(((!(a_ (q0.getD (Int.toNat x_0_0) default) a2)) ||(!(iA ((([])++((q0.take (Int.toNat x_0_0)).drop 0))++(q2.drop (Int.toNat (i64.wrap (x_0_0+1))))) a1)))=false->((cA a0 a1 a3)/\((cA a0 q0 a3)/\(((q3.2 !=0) ||(q8.2 !=0))=false->((cA a0 (q3.1) a2)/\((q6.2==0)=true->(je (q8.1) (q6.1))))))))))))))))))))))))))))))
@[go_sem] def gc:List SV->Option Con:=(pD .district fun a0=>(pR .deed fun a1=>(pD .deed fun a2=>(pD .deed fun a3=>(pE (.det (dh a0 a1 a2 a3) (.v (.bool (dC a0 a1 a2 a3)))))))))
theorem mK:FnOk Tryz.prog 8 gc:=by
 have hG:ConsOk Tryz.prog (mkG [(11,qm),(12,fun l=>rM (dJ [.st .district,.sl .deed] l)),(15,fun l=>ei (dJ [.st .district,.sl .deed] l)),(17,fun l=>qn (dJ [.sl .deed,.sl .deed] l)),(30,fun l=>jw (dJ [.st .deed,.st .deed] l))] [(13,CN (fun l=>iV (dJ [.st .district,.sl .deed,.st .deed] l)))]):=aV (cgc uH (cgc (xm.norm [.st .district,.sl .deed]) (cgc (eX.norm [.st .district,.sl .deed]) (cgc (uI.norm [.sl .deed,.sl .deed]) (cgc (lA.norm [.st .deed,.st .deed]) cg0))))) (cgc (FnOk.eat (ka.norm [.st .district,.sl .deed,.st .deed])) cg0);refine cj [.o] mixed aC hG (fn:=Tryz.f8) (c:=ag Tryz.f8) kr kr kr kr (cq fun a0=>(gn fun a1=>(cq fun a2=>(cq fun a3=>(bw (fun hp=>?_))))));dsimp only[bb]at hp;unfold dh at hp;refine⟨nbl rfl,(fun id st=>bif Nat.beq id 0 then some (LCV (ρ:=Int) (σ:=Int) 3 [] [0,1,2] (fun k_0 s_0=>⟨[(1,.rs .deed a1),(4,.ptr 0 0),(6,.ptr 1 0),(7,.ptr 2 0),(9,.rs .deed ((al a0 a1 a2).1)),(11,.v (.int .i64 s_0))],[.cells (cellsOf .district a0),.cells (cellsOf .deed a2),.cells (cellsOf .deed a3)]⟩) (c7 a1 a2) (dO a1 a2) (a1.length+1) 0 (fun _=>.normal) (fun x_0_0=>⟨[(1,.rs .deed a1),(4,.ptr 0 0),(6,.ptr 1 0),(7,.ptr 2 0),(9,.rs .deed ((al a0 a1 a2).1)),(11,.v (.int .i64 x_0_0))],[.cells (cellsOf .district a0),.cells (cellsOf .deed a2),.cells (cellsOf .deed a3)]⟩) st)else none),?_,?_⟩
 ·unfold ag Tryz.f8;simp only[ap,true_and,and_true]
  ·refine eS mixed aC hG kr (fun _=>rfl) fun k_0 s_0 hq0=>⟨L0,ak _,?_⟩
   ·unfold dO at hq0;exact cI (jl [0,1,2])
 ·unfold ag Tryz.f8;try unfold dC
  exact zq1
section
variable {α:Type}[Inhabited α]
theorem Fq {step:Nat->Int->Int⊕Int}{l:List α}{q:α->Bool}(hs:∀ j s,step j s=bif((decide (s< (l.length:Int)))&&q (l.getD (Int.toNat s) (default:α)))then .inr (i64.wrap (s+1))else .inl s)(hl:l.length<=100000):
  ∀ (n i k:Nat),k<=l.length->l.length - k<n->aq step n i (k:Int)=.inl ((k+((l.drop k).takeWhile q).length:Nat):Int)
 |0,_,_,_,h=>absurd h (Nat.not_lt_zero _)
 |n+1,i,k,hk,hn=>by
  rcases Nat.lt_or_eq_of_le hk with hk'|rfl
  ·have e:l.drop k=l[k]::l.drop (k+1):=List.drop_eq_getElem_cons hk';have e2:l.getD k (default:α)=l[k]:=i9 l default hk';unfold aq;rw[hs,Int.toNat_natCast,e2,decide_eq_true (p:=(k:Int) < (l.length:Int)) (by omega),Bool.true_and];cases h:q l[k]with
   |true=>
    rw[cond_true];rw[bB (by omega) (by omega),show(k:Int)+1=((k+1:Nat):Int) by omega];show aq step n (i+1) ((k+1:Nat):Int)=_;rw[Fq hs hl n (i+1) (k+1) hk' (by omega),e,List.takeWhile_cons,h,if_pos rfl,List.length_cons];congr 2;omega
   |false=>
    rw[cond_false,e,List.takeWhile_cons,h];simp
  ·unfold aq;rw[hs,decide_eq_false (p:=(l.length:Int) < (l.length:Int)) (by omega),Bool.false_and,cond_false];simp
theorem O1 {step:Nat->Int->Int⊕Int}{p:Nat->Int->Prop}{l:List α}{q:α->Bool}(hs:∀ j s,step j s=bif((decide (s< (l.length:Int)))&&q (l.getD (Int.toNat s) (default:α)))then .inr (i64.wrap (s+1))else .inl s)(hl:l.length<=100000)
  (hp:∀ j s,p j s=(l.length<=bR->((decide (s< (l.length:Int)))=true->(0<=s/\s< (l.length:Int))))) (n:Nat):okI step p n 0 0:=by
 refine se (fun _ s=>0<=s) n 0 0 (Int.le_refl _) fun j s _ _ h=>⟨?_,fun s' e=>?_⟩
 ·rw[hp];intro _ q;simp only[decide_eq_true_eq]at q;omega
 ·rw[hs]at e;cases hq:((decide (s< (l.length:Int)))&&q (l.getD (Int.toNat s) (default:α)))with
  |true=>
   rw[hq]at e;simp only[cond_true,Sum.inr.injEq]at e;simp only[Bool.and_eq_true,decide_eq_true_eq]at hq;rw[bB (by omega) (by omega)]at e;omega
  |false=>rw[hq]at e;cases e
end
theorem CQ {l:List Deed}(hA:Asc l)(n:Int):l.takeWhile (fun y=>decide (y.no<n))=l.filter (fun y=>decide (y.no<n)):=by
 induction l with
 |nil=>rfl
 |cons a l ih=>
  obtain⟨h1,h2⟩:=List.pairwise_cons.1 hA;rw[List.takeWhile_cons,List.filter_cons];by_cases h:a.no<n
  ·rw[decide_eq_true h,if_pos rfl,if_pos rfl,ih h2]
  ·rw[decide_eq_false h,if_neg (by simp),if_neg (by simp),List.filter_eq_nil_iff.2 fun y hy=>by have:=h1 y hy;simp;omega]
theorem O2 {l:List Deed}(hA:Asc l)(n:Int):l.filter (fun y=>decide (y.no<n))++l.filter (fun y=>!decide (y.no<n))=l:=by
 induction l with
 |nil=>rfl
 |cons a l ih=>
  obtain⟨h1,h2⟩:=List.pairwise_cons.1 hA;rw[List.filter_cons,List.filter_cons];by_cases h:a.no<n
  ·rw[decide_eq_true h,if_pos rfl,if_neg (by simp),List.cons_append,ih h2]
  ·rw[decide_eq_false h,if_neg (by simp),if_pos (by simp),List.filter_eq_nil_iff.2 fun y hy=>by have:=h1 y hy;simp;omega,List.nil_append,List.filter_eq_self.2 fun y hy=>by have:=h1 y hy;simp;omega]
theorem vS {x y:Deed}(h:x.no<y.no)(l:List Deed):dX y (dX x l)=dX x (dX y l):=by
 unfold dX;have f:∀ (p q:Deed->Bool),(∀ z,q z=true->p z=true)->(l.filter q).filter p=l.filter q:=fun p q hq=>List.filter_eq_self.2 fun z hz=>hq z (List.mem_filter.1 hz).2;have g:∀ (p q:Deed->Bool),(∀ z,q z=true->p z=false)->(l.filter q).filter p=[]:=fun p q hq=>List.filter_eq_nil_iff.2 fun z hz=>by rw[hq z (List.mem_filter.1 hz).2];simp
 have c:∀ (p q:Deed->Bool),(l.filter q).filter p=(l.filter p).filter q:=fun p q=>by simp only[List.filter_filter];congr 1;funext z;rw[Bool.and_comm]
 have nx:¬y.no<x.no:=by omega
 simp only[List.filter_append,List.filter_cons,decide_eq_true h,decide_eq_false nx,Bool.not_true,Bool.not_false,if_true,if_false,Bool.false_eq_true];rw[f (fun z=>decide (z.no<y.no)) (fun z=>decide (z.no<x.no)) (fun z hz=>by simp at hz |-;omega),
  g (fun z=>!decide (z.no<y.no)) (fun z=>decide (z.no<x.no)) (fun z hz=>by simp at hz |-;omega),
  f (fun z=>!decide (z.no<x.no)) (fun z=>!decide (z.no<y.no)) (fun z hz=>by simp at hz |-;omega),
  g (fun z=>decide (z.no<x.no)) (fun z=>!decide (z.no<y.no)) (fun z hz=>by simp at hz |-;omega),
  c (fun z=>decide (z.no<x.no)) (fun z=>decide (z.no<y.no)),
  f (fun z=>decide (z.no<y.no)) (fun z=>decide (z.no<x.no)) (fun z hz=>by simp at hz |-;omega),
  c (fun z=>!decide (z.no<y.no)) (fun z=>!decide (z.no<x.no)),
  f (fun z=>!decide (z.no<x.no)) (fun z=>!decide (z.no<y.no)) (fun z hz=>by simp at hz |-;omega),
  c (fun z=>decide (z.no<y.no)) (fun z=>!decide (z.no<x.no))]
 simp
theorem vT (d:District)(l:List Deed)(x y:Deed):dh d l x y/\dC d l x y=true:=by
 have hs:∀ j s,c7 l x j s=bif((decide (s< (l.length:Int)))&&decide ((l.getD (Int.toNat s) (default:Deed)).no<x.no))then .inr (i64.wrap (s+1))else .inl s:=fun j s=>rfl;unfold dh dC;rw[KP];simp only[Bool.not_true,cond_false];generalize (((!(ml d l)) ||(decide ((x.parts.length:Int) > 100))) ||(decide ((y.parts.length:Int) > 100)))=few;have hAx:=(lB d l x).1;have eAx:=(lB d l x).2;have hAy:=(lB d l y).1;have eAy:=(lB d l y).2;by_cases hc:ah d l=0
 rotate_left
 ·have e:al d l x=([],ah d l):=by rw[eAx];unfold qp;rw[if_pos hc]
  have hne:(ah d l !=0)=true:=by simpa using hc
  rw[e];simp only[hne];refine⟨⟨xl,fun _ _=>⟨hAx,fun h=>by cases h⟩⟩,?_⟩;cases few <;>simp
 have hD:=mb hc;have hl:=hD.len;by_cases hx:∃ z∈l,z.no=x.no
 ·have e:al d l x=([],171):=by rw[eAx];unfold qp;rw[if_neg (by simp[hc]),if_pos hx]
  rw[e];refine⟨⟨xl,fun _ _=>⟨hAx,fun h=>by cases h⟩⟩,?_⟩;cases few <;>simp
 by_cases hi:ah d (dX x l)=0
 rotate_left
 ·have e:al d l x=([],ah d (dX x l)):=by rw[eAx];unfold qp;rw[if_neg (by simp[hc]),if_neg hx,if_pos hi]
  have hne:(ah d (dX x l) !=0)=true:=by simpa using hi
  rw[e];simp only[hne];refine⟨⟨xl,fun _ _=>⟨hAx,fun h=>by cases h⟩⟩,?_⟩;cases few <;>simp
 have e:al d l x=(dX x l,0):=by rw[eAx];unfold qp;rw[if_neg (by simp[hc]),if_neg hx,if_neg (by simp[hi])]
 rw[e];have hD2:=mb hi;have hrun:aq (c7 l x) (l.length+1) 0 0=.inl (((l.filter fun z=>decide (z.no<x.no)).length:Nat):Int):=by
  have:=Fq (l:=l) (q:=fun z=>decide (z.no<x.no)) hs (by omega) (l.length+1) 0 0 (Nat.zero_le _) (by omega);rw[Nat.zero_add,List.drop_zero,CQ hD.asc]at this;exact this
 have hok:okI (c7 l x) (dO l x) (l.length+1) 0 0:=O1 (l:=l) (q:=fun z=>decide (z.no<x.no)) hs (by omega) (fun _ _=>rfl) _;obtain⟨A,hA⟩:∃ A,A=l.filter fun z=>decide (z.no<x.no):=⟨_,rfl⟩;obtain⟨B,hB⟩:∃ B,B=l.filter fun z=>!decide (z.no<x.no):=⟨_,rfl⟩;have hl2:dX x l=A++x::B:=by rw[hA,hB];rfl
 have hAB:A++B=l:=by rw[hA,hB];exact O2 hD.asc x.no
 have hlen:A.length+B.length=l.length:=by rw[<-hAB,List.length_append]
 have hlen2:(dX x l).length=l.length+1:=Fk x l;rw[<-hA]at hrun;have hk:(dX x l).getD A.length default=x:=by rw[hl2,List.getD_eq_getElem?_getD,List.getElem?_append_right (Nat.le_refl _)];simp
 have hw:i64.wrap ((A.length:Int)+1)=((A.length+1:Nat):Int):=by rw[bB (by omega) (by omega)];omega
 have hw2:i64.wrap ((l.length:Int)+1)=((l.length+1:Nat):Int):=by rw[bB (by omega) (by omega)];omega
 have hrest:(([]++((dX x l).take (Int.toNat (A.length:Int))).drop 0)++((dX x l).take (Int.toNat ((dX x l).length:Int))).drop (Int.toNat ((A.length+1:Nat):Int)))=l:=by
  rw[Int.toNat_natCast,Int.toNat_natCast,Int.toNat_natCast,List.take_length,List.nil_append,List.drop_zero,hl2];rw[List.take_left,List.drop_append,List.drop_eq_nil_of_le (by omega),show A.length+1 - A.length=1 by omega];simpa using hAB
 have hB1:=lB d (dX x l) y;simp only[hrun,hi,hlen2,hw2,hw,Int.toNat_natCast,hk,rb]at hrest |-;have hq1:∀ z,Sum.inl (β:=Int) (A.length:Int)≠Sum.inr z:=fun z h=>by cases h
 have hmB:fY=140737488355328:=rfl;have htl:([]++((dX x l).take A.length).drop 0).length<=l.length:=by rw[List.nil_append,List.drop_zero,List.length_take];omega
 have fin:(((al d l y).2 !=0||(al d (dX x l) y).2 !=0)=false->cA d ((al d l y).1) x/\(al d ((al d l y).1) x).2=0/\(al d (dX x l) y).1=(al d ((al d l y).1) x).1)/\
   (((al d l y).2 !=0||(al d (dX x l) y).2 !=0)=true->((((al d l y).2==0) ||((((al d l y).1).length:Int) ==0))&&(((al d (dX x l) y).2==0) ||((((al d (dX x l) y).1).length:Int) ==0)))=true):=by
  have nilA:∀ (m:List Deed),(al d m y).2=0\/(al d m y).1=[]:=fun m=>by
   rw[(lB d m y).2];unfold qp;split
   ·exact .inr rfl
   ·split
    ·exact .inr rfl
    ·split
     ·exact .inr rfl
     ·exact .inl rfl
  constructor
  ·intro h;refine⟨(lB _ _ _).1,?_⟩;simp only[Bool.or_eq_false_iff,bne_eq_false_iff_eq]at h;obtain⟨h1,h2⟩:=h;rw[eAy]at h1 |-;rw[hB1.2]at h2 |-;unfold qp at h1 h2;rw[if_neg (by simp[hc])]at h1;rw[if_neg (by simp[hi])]at h2;split at h1
   ·cases h1
   rename_i g1;split at h1
   ·rename_i g2;exact absurd h1 g2
   rename_i g2;split at h2
   ·cases h2
   rename_i g3;split at h2
   ·rename_i g4;exact absurd h2 g4
   rename_i g4;have g2:ah d (dX y l)=0:=by simpa using g2
   have g4:ah d (dX y (dX x l))=0:=by simpa using g4
   have hxy:x.no≠y.no:=fun e=>g3 ⟨x,yZ.2 (.inl rfl),e⟩;have hcomm:dX y (dX x l)=dX x (dX y l):=by
    rcases Int.lt_or_lt_of_ne hxy with h|h
    ·exact vS h l
    ·exact(vS h l).symm
   have e1:qp d l y=(dX y l,0):=by unfold qp;rw[if_neg (by simp[hc]),if_neg g1,if_neg (by simp[g2])]
   have e2:qp d (dX x l) y=(dX y (dX x l),0):=by unfold qp;rw[if_neg (by simp[hi]),if_neg g3,if_neg (by simp[g4])]
   have g5:¬ ∃ z∈dX y l,z.no=x.no:=by
    rintro⟨z,hz,e⟩;rcases yZ.1 hz with rfl|hz
    ·exact hxy e.symm
    ·exact hx ⟨z,hz,e⟩
   have e3:qp d (dX y l) x=(dX x (dX y l),0):=by unfold qp;rw[if_neg (by simp[g2]),if_neg g5,if_neg (by simp[<-hcomm,g4])]
   rw[e1,e2,(lB d (dX y l) x).2,e3];exact⟨rfl,hcomm⟩
  ·intro _;rw[Bool.and_eq_true,Bool.or_eq_true,Bool.or_eq_true];constructor
   ·rcases nilA l with h|h
    ·left;simp[h]
    ·right;simp[h]
   ·rcases nilA (dX x l)with h|h
    ·left;simp[h]
    ·right;simp[h]
 constructor
 ·refine⟨xl,fun _ _=>⟨hAx,fun _=>⟨fT _ _,fun _=>⟨hok,hq1,fun z hz=>?_⟩⟩⟩⟩;cases hz;simp only[hw,Int.toNat_natCast,hk,rb,hlen2];refine⟨⟨by omega,by omega⟩,Fl _ _,fun _=>⟨by omega,by omega,by omega⟩,(fun h=>by cases h),fun _=>⟨by rw[hmB];omega,fun _=>⟨fun _=>⟨by omega,by omega,by omega⟩,(fun h=>by cases h),fun _=>⟨?_,fun _=>⟨fun _=>Fo _ _,fun _=>⟨hAy,hB1.1,fun h=>⟨(fin.1 h).1,fun _=>Fo _ _⟩⟩⟩⟩⟩⟩⟩;rw[hrest,hmB];omega
 ·rw[hrest,vR];cases hf:((al d l y).2 !=0||(al d (dX x l) y).2 !=0)with
  |true=>rw[cond_true,fin.2 hf];cases few <;>simp
  |false=>
   obtain⟨_,f1,f2⟩:=fin.1 hf;rw[cond_false,f1,f2,vR];cases few <;>simp
theorem HW (d:District)(l:List Deed)(x y:Deed):dh d l x y:=(vT d l x y).1
theorem HX (d:District)(l:List Deed)(x y:Deed):dC d l x y=true:=(vT d l x y).2
end Go.Sx
end
section
namespace Go.Sx
open Go.Deep Go.RowKit
section
variable {F:Nat->Prop}{own:Own}{w:World}
def RC (F:Nat->Prop)(own:Own)(w:World)(ks:List Kd)(cs:List Value):Prop:=
 ∃ l:List SV,lF ks l=true/\l.length=cs.length/\∀ (j:Nat) (s:SV) (v:Value),l[j]? =some s->cs[j]? =some v->Rel F own w s v
theorem y3:∀ {a b:List Kd} {l m:List SV},lF a l=true->lF b m=true->lF (a++b) (l++m)=true
 | [],b,l,m,h1,h2=>by rw[lM h1];exact h2
 |k::a,b,l,m,h1,h2=>by
  obtain⟨x,r,rfl,e1,e2⟩:=jn h1;simp only[List.cons_append,lF,e1,y3 e2 h2,Bool.and_self]
theorem RC.nil:RC F own w [] []:=⟨[],rfl,rfl,fun j s v h=>by cases h⟩
theorem RC.app {a b:List Kd}{c d:List Value}(h1:RC F own w a c)(h2:RC F own w b d):RC F own w (a++b) (c++d):=by
 obtain⟨l,f1,n1,r1⟩:=h1;obtain⟨m,f2,n2,r2⟩:=h2;refine⟨l++m,y3 f1 f2,by simp[n1,n2],fun j s v hs hv=>?_⟩;by_cases hj:j<l.length
 ·rw[List.getElem?_append_left hj]at hs;rw[List.getElem?_append_left (by omega)]at hv;exact r1 j s v hs hv
 ·rw[List.getElem?_append_right (by omega)]at hs;rw[List.getElem?_append_right (by omega),<-n1]at hv;exact r2 _ s v hs hv
theorem RC.one {k:Kd}{s:SV}{v:Value}(h1:fit k s=true)(h2:Rel F own w s v):RC F own w [k] [v]:=
 ⟨[s],by simp[lF,h1],rfl,fun j s' v' hs hv=>by
  cases j with
  |zero=>simp only[List.getElem?_cons_zero,Option.some.injEq]at hs hv;subst hs;subst hv;exact h2
  |succ j=>simp at hs⟩
end
def KS:Kd->Kd->Bool
 | .s,.s=>true
 | .b,.b=>true
 | .n a,.n b=>decide (a=b)
 | .r a,.r b=>decide (a=b)
 | .m a c,.m b d=>decide (a=b)&&decide (c=d)
 |_,_=>false
theorem HY:∀ {a b:Kd},KS a b=true->a=b:=by
 intro a b h;cases a <;>cases b <;>simp_all [KS]
def Ft:List Kd->List Kd->Bool
 | [],[] =>true
 |a::l,b::m=>KS a b&&Ft l m
 |_,_=>false
theorem BD:∀ {a b:List Kd},Ft a b=true->a=b
 | [],[],_=>rfl
 |a::l,b::m,h=>by
  simp only[Ft,Bool.and_eq_true]at h;rw[HY h.1,BD h.2]
def ui (P:Program)(g:TypeId->Option (List Kd)):List Field->Nat->Nat->Option (List Kd)
 | [],off,tot=>bif Nat.beq off tot then some []else none
 |f::r,off,tot=>match g f.type with
  |some a=>bif Nat.beq f.offset off&&Nat.beq a.length (P.cellsOf f.type)then(ui P g r (off+a.length) tot).map (a++ ·)else none
  |none=>none
def Ay (a:List Kd):Nat->List Kd
 |0=>[]
 |n+1=>a++Ay a n
def uj (P:Program):Nat->TypeId->Option (List Kd)
 |0,_=>none
 |n+1,t=>match P.underlying t with
  |some .bool=>some [.b]
  |some (.int k) =>some [.n k]
  |some .string=>some [.s]
  |some (.slice e) =>match xv P e,uj P n e with
   |some k,some ks=>bif Ft ks (b9 k)&&Nat.beq (P.cellsOf e) (aa k)&&Nat.ble 1 (aa k)then some [.r k]else none
   |_,_=>none
  |some (.struct fs) =>ui P (uj P n) fs.toList 0 (P.cellsOf t)
  |some (.array m e) =>match uj P n e with
   |some a=>bif Nat.beq a.length (P.cellsOf e)&&Nat.beq (P.cellsOf t) (m*a.length)then some (Ay a m)else none
   |none=>none
  |_=>none
section
variable {H:Type}{enc:TypeId×Value->H}{P:Program}{F:Nat->Prop}{own:Own}{w:World}{base:Nat}{spare:Nat->Bool}{held:Bool}{S:DataW H->Prop}
theorem BE {g:TypeId->Option (List Kd)}(hg:∀ t ks,g t=some ks->∀ (fuel:Nat) (cs:List Value) (x:DataW H×List MemPlace),DataW.trod enc P w base spare held fuel t cs=some x->S x.1->RC F own w ks cs)
  (fuel:Nat) (cs:List Value):∀ (fs:List Field) (off:Nat) (ks:List Kd),ui P g fs off cs.length=some ks->(∀ f∈fs,∃ x,DataW.trod enc P w base spare held fuel f.type ((cs.drop f.offset).take (P.cellsOf f.type))=some x/\S x.1)->RC F own w ks (cs.drop off)
 | [],off,ks,h,_=>by
  unfold ui at h;cases hb:Nat.beq off cs.length with
  |false=>rw[hb]at h;cases h
  |true=>
   rw[hb]at h;have:off=cs.length:=Nat.eq_of_beq_eq_true hb;subst this;cases h;rw[List.drop_length];exact RC.nil
 |f::r,off,ks,h,hx=>by
  unfold ui at h;cases ha:g f.type with
  |none=>rw[ha]at h;cases h
  |some a=>
   rw[ha]at h;dsimp only at h;cases hb:Nat.beq f.offset off&&Nat.beq a.length (P.cellsOf f.type)with
   |false=>rw[hb]at h;cases h
   |true=>
    rw[hb]at h;simp only[cond_true,Option.map_eq_some_iff]at h;obtain⟨ks2,h2,rfl⟩:=h;rw[Bool.and_eq_true]at hb;have e1:f.offset=off:=Nat.eq_of_beq_eq_true hb.1;have e2:a.length=P.cellsOf f.type:=Nat.eq_of_beq_eq_true hb.2;obtain⟨x,hx1,hs1⟩:=hx f (by simp);have h3:=hg _ _ ha _ _ _ hx1 hs1;have h4:=BE hg fuel cs r (off+a.length) ks2 h2 fun f hf=>hx f (by simp[hf]);have:=h3.app h4;rw[e1,<-e2]at this
    rwa[<-List.drop_drop,List.take_append_drop]at this
theorem BF {e:TypeId}{a:List Kd}(ha:∀ (fuel:Nat) (cs:List Value) (x:DataW H×List MemPlace),DataW.trod enc P w base spare held fuel e cs=some x->S x.1->RC F own w a cs)
  (fuel:Nat):∀ (m:Nat) (cs:List Value),cs.length=m*a.length->(∀ i,i<m->∃ x,DataW.trod enc P w base spare held fuel e ((cs.drop (i*a.length)).take a.length)=some x/\S x.1)->RC F own w (Ay a m) cs
 |0,cs,h,_=>by
  have:cs=[]:=by simpa using h
  subst this;exact RC.nil
 |m+1,cs,h,hx=>by
  obtain⟨x,hx1,hs1⟩:=hx 0 (by omega);rw[Nat.zero_mul,List.drop_zero]at hx1;have h3:=ha _ _ _ hx1 hs1;have h4:=BF ha fuel m (cs.drop a.length) (by rw[List.length_drop,h,Nat.succ_mul];omega) fun i hi=>by
   obtain⟨x,hx2,hs2⟩:=hx (i+1) (by omega);refine⟨x,?_,hs2⟩;rw[List.drop_drop]
   rwa[Nat.succ_mul,Nat.add_comm]at hx2
  have:=h3.app h4
  rwa[List.take_append_drop]at this
structure Small (S:DataW H->Prop):Prop where
 agg:∀ l,S (.agg l)->∀ d∈l,S d
 slice:∀ l m,S (.slice l m)->l.length<=bR/\∀ d∈l,S d
theorem iB (hS:Small S)(hown:∀ b,¬bD F own b):∀ (n:Nat) (t:TypeId) (ks:List Kd),uj P n t=some ks->∀ (fuel:Nat) (cs:List Value) (x:DataW H×List MemPlace),DataW.trod enc P w base spare held fuel t cs=some x->S x.1->RC F own w ks cs
 |0,_,_,h,_,_,_,_,_=>by cases h
 |n+1,t,ks,h,fuel,cs,x,hx,hs=>by
  unfold uj at h;split at h
  ·rename_i ht;cases h;obtain⟨b,rfl,rfl⟩:=DataW.trod_bool ht hx;exact RC.one (s:=.v (.bool b)) rfl (.v _)
  ·rename_i k ht;cases h;obtain⟨m,rfl,rfl,_⟩:=DataW.trod_int ht hx;exact RC.one (s:=.v (.int k m)) (by simp[fit]) (.v _)
  ·rename_i ht;cases h;obtain⟨b,rfl,rfl,_⟩:=DataW.trod_string ht hx;exact RC.one (s:=.v (.string b)) rfl (.v _)
  ·rename_i e ht;split at h
   ·rename_i k ks2 hk hks;cases hb:Ft ks2 (b9 k)&&Nat.beq (P.cellsOf e) (aa k)&&Nat.ble 1 (aa k)with
    |false=>rw[hb]at h;cases h
    |true=>
     rw[hb]at h;cases h;simp only[Bool.and_eq_true]at hb;have e1:=BD hb.1.1;have e2:P.cellsOf e=aa k:=Nat.eq_of_beq_eq_true hb.1.2;have e3:1<=aa k:=nbl hb.2;subst e1;rcases open_slice ht hx with⟨rfl,rfl⟩ | ⟨a,len,cap,m,f2,D,Pl,rfl,hb1,hl,hm,hmm,rfl,hel⟩
     ·exact RC.one (s:=.rs k []) (by simp[fit]) .rs0
     ·have hlm:len<=m:=by subst hmm;split <;>omega
      obtain⟨hs1,hs2⟩:=hS.slice _ _ hs;simp only[List.length_map,List.length_range]at hs1;have helt:∀ i,i<len->∃ cs',cs'.length=aa k/\(∀ j v,cs'[j]? =some v->w.cell? ((a.add (i*aa k)).add j)=some v)/\RC F own w (b9 k) cs':=fun i hi=>by
       obtain⟨cs',h1,h2⟩:=hel i (by omega);have h3:=iB hS hown n e (b9 k) hks f2 cs' _ h2 (hs2 _ (List.mem_map_of_mem (List.mem_range.2 hi)));unfold World.cells? at h1;split at h1
       ·refine⟨cs',by rw[mapM_some_length h1,List.length_range,e2],fun j v hj=>?_,h3⟩;have hlt:j<P.cellsOf e:=by
         have:=(List.getElem?_eq_some_iff.1 hj).1
         rwa[mapM_some_length h1,List.length_range]at this
        have:=mapM_some_get h1 j j (by simp[hlt]);rw[e2]at this;rw[this,hj]
       ·cases h1
      by_cases h0:len=0
      ·subst h0;exact RC.one (s:=.rs k []) (by simp[fit]) .rs0
      ·have hsp:a.spot=none:=by
        obtain⟨cs',h1,h2,_⟩:=helt 0 (by omega);have:=h2 0 (cs'[0]'(by omega)) (by rw[List.getElem?_eq_getElem]);rw[Nat.zero_mul]at this;simp only[Addr.add,if_true]at this;unfold World.cell? at this;split at this
        ·cases hsp:a.spot with
         |none=>rfl
         |some q=>rw[hsp]at this;simp at this
        ·cases this
       obtain⟨ab,ao,asp⟩:=a;dsimp only at hsp;subst hsp
       haveI:Inhabited k.T:=⟨di k⟩
       obtain⟨X,hX⟩:=choose_lt (p:=fun i (x:k.T) =>∀ (j:Nat) (s:SV),(cellsOf k x)[j]? =some s->∃ v,w.cell? ⟨ab,ao+i*aa k+j,none⟩=some v/\Rel F own w s v) (n:=len) fun i hi=>by
        obtain⟨cs',h1,h2,l,h3,h4,h5⟩:=helt i hi;refine⟨mkE k l,fun j s hj=>?_⟩;rw[jK (k:=k) (l:=l) (x:=mkE k l) (by unfold lG;rw[h3];rfl)]at hj;have hlt:j<cs'.length:=by
         have:=(List.getElem?_eq_some_iff.1 hj).1;omega
        refine⟨cs'[j],?_,h5 j s _ hj (List.getElem?_eq_getElem hlt)⟩;have:=h2 j cs'[j] (List.getElem?_eq_getElem hlt);have hadd:∀ p q,((⟨ab,ao,none⟩:Addr).add p).add q=⟨ab,ao+p+q,none⟩:=fun p q=>by
         unfold Addr.add;by_cases hp:p=0 <;>by_cases hq:q=0 <;>simp[hp,hq]
        rwa[hadd]at this
       have hL:((List.range len).map X).length=len:=by simp
       refine RC.one (s:=.rs k ((List.range len).map X)) (by simp[fit]) ?_;have hget:∀ (i:Nat) (x:k.T),((List.range len).map X)[i]? =some x->i<len/\x=X i:=fun i x hi=>by
        obtain⟨h1,h2⟩:=List.getElem?_eq_some_iff.1 hi;rw[hL]at h1;simp only[List.getElem_map,List.getElem_range]at h2;subst h2;exact⟨h1,rfl⟩
       have:=Rel.rs (F:=F) (own:=own) (w:=w) (k:=k) (l:=(List.range len).map X) (b:=ab) (o:=ao) (cap:=cap) (fun i j=>(w.cell? ⟨ab,ao+i*aa k+j,none⟩).getD undef) (by rw[hL];exact hl) (by rw[hL];exact hs1)
        (fun i x hi j s hj=>by
         obtain⟨h1,rfl⟩:=hget i x hi;obtain⟨v,h2,_⟩:=hX i h1 j s hj;exact⟨hown _,by rw[h2];rfl⟩)
        (fun i x hi j s hj=>by
         obtain⟨h1,rfl⟩:=hget i x hi;obtain⟨v,h2,h3⟩:=hX i h1 j s hj;rw[h2];exact h3)
       rwa[hL]at this
   ·cases h
  ·rename_i fs ht;obtain⟨xs,m,rfl,rfl,hl,hlen,hf⟩:=DataW.trod_struct ht hx;rw[<-hl]at h;have:=BE (iB hS hown n) m cs fs.toList 0 ks h fun f hfm=>by
    obtain⟨i,hi,rfl⟩:=List.getElem_of_mem hfm;have hi':i<fs.size:=by simpa using hi
    have h1:=hf i fs[i] (by simp[hi']);rw[List.getElem?_eq_getElem (by omega)]at h1;refine⟨_,by simpa using h1,hS.agg _ hs _ (List.mem_map_of_mem (List.getElem_mem _))⟩
   simpa using this
  ·rename_i m e ht;split at h
   ·rename_i a ha;cases hb:Nat.beq a.length (P.cellsOf e)&&Nat.beq (P.cellsOf t) (m*a.length)with
    |false=>rw[hb]at h;cases h
    |true=>
     rw[hb]at h;cases h;rw[Bool.and_eq_true]at hb;have e1:a.length=P.cellsOf e:=Nat.eq_of_beq_eq_true hb.1;have e2:P.cellsOf t=m*a.length:=Nat.eq_of_beq_eq_true hb.2;obtain⟨xs,f2,rfl,rfl,hl,hlen,hf⟩:=DataW.trod_array ht hx;refine BF (iB hS hown n e a ha) f2 m cs (by rw[hl,e2]) fun i hi=>?_;have h1:=hf i hi;rw[List.getElem?_eq_getElem (by omega),<-e1]at h1;exact⟨_,h1,hS.agg _ hs _ (List.mem_map_of_mem (List.getElem_mem _))⟩
   ·cases h
  ·cases h
end
end Go.Sx
end
section
namespace Go.Sx
open Go.Proofs
section
variable {F:Nat->Prop}{own:Own}{w:World}
theorem xn {k:Tag}{cs:Array Value}(h:RC F own w (b9 k) cs.toList):∃ x:k.T,Rel F own w (.agg (cellsOf k x)) (.agg cs):=by
 obtain⟨l,h3,h4,h5⟩:=h;refine⟨mkE k l,?_⟩;rw[jK (k:=k) (l:=l) (x:=mkE k l) (by unfold lG;rw[h3];rfl)];refine .agg (by simpa using h4.symm) fun j s hj=>?_;have hlt:j<cs.size:=by
  have:=(List.getElem?_eq_some_iff.1 hj).1;simpa[h4]using this
 exact h5 j s _ hj (by simp[Array.getD,hlt])
theorem KT {k:Tag}{v:Value}(h:RC F own w [.r k] [v]):∃ l:List k.T,Rel F own w (.rs k l) v:=by
 obtain⟨l,h3,h4,h5⟩:=h;obtain⟨x,r,rfl,h6,h7⟩:=jn h3;have h8:=h5 0 x v rfl rfl;cases x with
 |rs k' l'=>
  have:k=k':=by
   simp only[fit]at h6;exact pn h6
  subst this;exact⟨l',h8⟩
 |_=>simp[fit]at h6
end
end Go.Sx
end
section
namespace Go.Sx
open Go.ChangeShapes Go.RowKit Go.WideShapes
section
variable {H:Type}{enc:TypeId×Value->H}{P:Program}
def HZ (P:Program):List TypeId->Bool
 | [] =>true
 |t::r=>P.readableRec t&&Nat.blt t P.types.size&&HZ P r
theorem vU (hl:laidOutB P=true){W W':World}(hg:Below W.heap.size W W'):∀ {ts:List TypeId} {vs:List Value} {ds:List (DataW H)} {ps:List MemPlace},HZ P ts=true->
  DataW.TrodAll enc P W 0 (fun _=>true) true ts vs ds ps->(∀ x∈ps,x.block<W.heap.size)->DataW.TrodAll enc P W' 0 (fun b=>decide (b<W.heap.size)) true ts vs ds ps
 | [],vs,ds,ps,_,h,_=>by
  obtain⟨rfl,rfl,rfl⟩:=trodAll_nil h;exact trodAll_mk0
 |t::ts,vs,ds,ps,hk,h,hlt=>by
  unfold HZ at hk;rw[Bool.and_eq_true,Bool.and_eq_true]at hk;obtain⟨v,vs',d,ds',p,q,rfl,rfl,rfl,h1,h2⟩:=trodAll_cons h;refine trodAll_cons_mk (WideElems.Trod_stays hl hk.1.1 (by simpa[Nat.blt_eq]using hk.1.2) h1 (fun x hx=>hg.same (hlt x (List.mem_append_left _ hx))) (fun x hx=>by simpa using hlt x (List.mem_append_left _ hx))) ?_;exact vU hl hg hk.2 h2 fun x hx=>hlt x (List.mem_append_right _ hx)
theorem Fu (hl:laidOutB P=true){f:Func}{s:ChangeSpec}{W W':World}{args:Array Value}{ds gs:List (DataW H)}{before:List MemPlace}{t:TypeId}
  (hk:HZ P f.params.toList=true) (hW:DataW.Whole enc P f.params.toList s.vars false W args.toList ds gs before)
  (hr:f.resultTypes= #[t]) (ht:P.underlying t=some .bool) (hv:s.vars=[]) (h1:(s.fn H (ds++gs)).results=[.lit (.bool true)]) (h2:(s.fn H (ds++gs)).args=ds) (h3:(s.fn H (ds++gs)).vars=[])
  (hg:Below W.heap.size W W'):s.post enc P f false true false false W args (.bool true) W':=by
 have hlt:=hW.lt;have hW0:=hW;obtain⟨p,q,hA,hV,rfl,_,_⟩:=hW;rw[hv]at hV;obtain⟨rfl,rfl⟩:=trodVars_none hV;refine⟨ds,[],p++[],[],p,[],hW0,?_,?_,?_,?_,fun h=>by cases h⟩
 ·rw[h1,hr];exact trodAll_cons_mk (shut_bool ht _) trodAll_mk0
 ·rw[h2];exact vU hl hg hk hA fun x hx=>hlt x (by simpa using hx)
 ·rw[h3,hv];rfl
 ·exact World.keptBut_mono (fun x hx=>⟨hx,.inr (.inl (by simpa using hx))⟩) (hg.frame (· ∈p++[]))
end
end Go.Sx
end
section
namespace Go.Proofs.YthcbieoehjhjfaaGreat.bulks
theorem one_le {H:Type}(d:DataW H):1<=Rows.uptoBulk d:=by
 cases d with
 |lit l=>cases l <;>simp[Rows.uptoBulk]
 |nil=>simp[Rows.uptoBulk]
 |ptr d=>simp[Rows.uptoBulk]
 |slice kg spare=>simp[Rows.uptoBulk]
 |agg parts=>simp[Rows.uptoBulk]
 |iface t d=>simp[Rows.uptoBulk]
 |map entries=>simp[Rows.uptoBulk]
 |held h=>simp[Rows.uptoBulk]
theorem part_le {H:Type}{d:DataW H}{l:List (DataW H)}(h:d∈l):Rows.uptoBulk d<=Rows.uptoBulkAll l:=by
 induction l with
 |nil=>cases h
 |cons x r ih=>
  simp only[Rows.uptoBulkAll];cases List.mem_cons.1 h with
  |inl e=>subst e;omega
  |inr e=>have:=ih e;omega
theorem append {H:Type}(l r:List (DataW H)):Rows.uptoBulkAll (l++r)=Rows.uptoBulkAll l+Rows.uptoBulkAll r:=by
 induction l with
 |nil=>simp[Rows.uptoBulkAll]
 |cons x l ih=>simp only[List.cons_append,Rows.uptoBulkAll,ih];omega
theorem length_le {H:Type}(l:List (DataW H)):l.length<=Rows.uptoBulkAll l:=by
 induction l with
 |nil=>simp[Rows.uptoBulkAll]
 |cons x r ih=>have:=one_le x;simp only[Rows.uptoBulkAll,List.length_cons];omega
theorem slice_le {H:Type}(kg spare:List (DataW H)):kg.length+spare.length+1<=Rows.uptoBulk (.slice kg spare):=by
 have h1:=length_le kg;have h2:=length_le spare;simp only[Rows.uptoBulk];omega
theorem slice_elems {H:Type}(kg spare:List (DataW H)):Rows.uptoBulkAll kg+1<=Rows.uptoBulk (.slice kg spare):=by
 simp only[Rows.uptoBulk];omega
theorem bound {H:Type}{l:List (DataW H)}(hk:Rows.uptoSmall H l=true):Rows.uptoBulkAll l<=1048576:=by
 simpa[Rows.uptoSmall]using hk
theorem room {n b:Nat}(hn:n<=2097152)(hb:b<=4096):(n+n / 4+192)*b<=281474976710656:=by
 have h:(n+n / 4+192)*b<=2621632*4096:=Nat.mul_le_mul (by omega) hb;omega
end Go.Proofs.YthcbieoehjhjfaaGreat.bulks
end
