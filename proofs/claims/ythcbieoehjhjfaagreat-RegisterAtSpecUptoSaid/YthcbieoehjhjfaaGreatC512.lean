/- Part of the proof that the law RegisterAtSpec returns true and leaves its arguments as they were, for all arguments of bulk at most 1048576 (the Upto form). -/
import Derived.Test.YthcbieoehjhjfaaGreatC507
import Derived.Test.YthcbieoehjhjfaaGreatC511
import Derived.Test.YthcbieoehjhjfaaGreatC508
set_option linter.all false
set_option maxHeartbeats 4000000
section
namespace Go.Sx
open Go.RowKit
def IZ (n0 id:Nat):Ob→SV
 | .row k l=>bif Nat.ble n0 id then .rs k l else .any
 |_=>.any
def isV:SV→Bool
 | .v _=>true
 |_=>false
def yn (n0:Nat)(h:List Ob):SV→SV
 | .v x=>.v x
 | .rs k l=>.rs k l
 | .agg l=>bif l.all isV then .agg l else .any
 | .os id=>IZ n0 id (ag h id)
 |_=>.any
def yo (n0:Nat)(h:List Ob):SV→SV
 | .tup l=>.tup (l.map (yn n0 h))
 |s=>yn n0 h s
def D0 (n0:Nat)(own:Own):Own:=fun i=>if i<n0 then own i else none
section
variable {F:Nat→Prop}{own:Own}{w:World}{n0:Nat}{h:List Ob}
theorem tJ {b:Nat}(hb:¬bZ F own b):¬bZ F (D0 n0 own) b:=by
 rintro (hf| ⟨id,hd,e,hm⟩)
 ·exact hb (.inl hf)
 ·unfold D0 at e
  split at e
  ·exact hb (.inr ⟨id,hd,e,hm⟩)
  ·cases e
theorem Cl (hp:Hp F own w h):∀ (s:SV) (v:Value),Rel F own w s v→Rel F (D0 n0 own) w (yn n0 h s) v:=by
 intro s v hr
 cases s with
 |v x=>exact hr.over (.v x) fun b hb=>tJ hb
 |rs k l=>exact hr.over .rs fun b hb=>tJ hb
 |agg l=>
  simp only[yn]
  cases ha:l.all isV with
  |false=>exact .any _
  |true=>
   refine hr.over (.agg fun j s hj=>?_) fun b hb=>tJ hb
   have:=List.all_eq_true.1 ha s (List.mem_of_getElem? hj)
   cases s <;>first|exact .v _|cases this
 |os id=>
  obtain⟨hd,h1,rfl,h2⟩:=ft hr
  simp only[yn]
  cases ho:ag h id with
  |row k l=>
   simp only[IZ]
   cases hn:Nat.ble n0 id with
   |false=>exact .any _
   |true=>
    have hn':=Nat.le_of_ble_eq_true hn
    obtain⟨hd',e0,e⟩:=hp.at ho rfl
    rw[h1]at e0;cases e0
    have hnb:∀ b∈hd.bs,¬bZ F (D0 n0 own) b:=by
     rintro b hb (hf| ⟨i,hi,e1,e2⟩)
     ·exact hp.apart id hd b h1 hb hf
     ·unfold D0 at e1
      split at e1
      ·rename_i hlt
       have:=hp.inj id i hd hi b h1 e1 hb e2
       omega
      ·cases e1
    rcases e with⟨a,e1,rfl,_⟩ | ⟨b,o,cap,cs,ty,e1,e2,h3,h4,h5,h6,h7⟩
    ·rw[e1];exact .rs0
    ·rw[e1]
     refine .rs (fun i j=>cs.getD (o+i*aa k+j) undef) h5 h6 (fun i x hi j s hj=>?_) (fun i x hi j s hj=>?_)
     ·obtain⟨u,k1,k2⟩:=h7 i x hi j s hj
      refine⟨hnb b (by simp[e2]),?_⟩
      rw[cW h3,k1]
      simp[Array.getD_eq_getD_getElem?,k1]
     ·obtain⟨u,k1,k2⟩:=h7 i x hi j s hj
      have:cs.getD (o+i*aa k+j) undef=u:=by simp[Array.getD_eq_getD_getElem?,k1]
      rw[this]
      exact k2.over (lY hj) fun b hb=>tJ hb
  |_=>exact .any _
 |_=>exact .any _
theorem I0 (hp:Hp F own w h)(s:SV)(v:Value)(hr:Rel F own w s v):Rel F (D0 n0 own) w (yo n0 h s) v:=by
 cases s with
 |tup l=>
  cases hr with
  |tup h0 h1=>
   refine .tup (by simpa using h0) fun j s hj=>?_
   obtain⟨x,hx,rfl⟩:=cr hj
   exact Cl hp x _ (h1 j x hx)
 |_=>exact Cl hp _ _ hr
@[go_sem] theorem SF {l:List SV}:yo n0 h (.tup l)=.tup (l.map (yn n0 h)):=(rfl)
@[go_sem] theorem Uh {id:Nat}:yo n0 h (.os id)=IZ n0 id (ag h id):=(rfl)
@[go_sem] theorem U9 {x:Value}:yo n0 h (.v x)=.v x:=(rfl)
@[go_sem] theorem Ui {k:Tag}{l:List k.T}:yo n0 h (.rs k l)=.rs k l:=(rfl)
@[go_sem] theorem SG {l:List SV}:yo n0 h (.agg l)=bif l.all isV then .agg l else .any:=(rfl)
@[go_sem] theorem U_ {x:Value}:yn n0 h (.v x)=.v x:=(rfl)
@[go_sem] theorem Uj {k:Tag}{l:List k.T}:yn n0 h (.rs k l)=.rs k l:=(rfl)
@[go_sem] theorem SH {l:List SV}:yn n0 h (.agg l)=bif l.all isV then .agg l else .any:=(rfl)
@[go_sem] theorem Uk {id:Nat}:yn n0 h (.os id)=IZ n0 id (ag h id):=(rfl)
@[go_sem] theorem SI {k:Tag}{l:List k.T}{id:Nat}:IZ n0 id (.row k l)=bif Nat.ble n0 id then .rs k l else .any:=(rfl)
@[go_sem] theorem isV_v {x:Value}:isV (.v x)=true:=(rfl)
end
def I1 (pks:List Pk)(n0:Nat)(S:SV)(H:List Ob)(h:List Ob):Option SV→Prop
 |some s=>S=ra pks (yo n0 h s)∧fQ ⟨[],H⟩ n0 ⟨[],h⟩
 |none=>False
def Mt (pks:List Pk)(n0:Nat)(rs:List ResultVar)(ts:Tis)(S:SV)(H:List Ob):Ex→St→Prop
 | .exit _,_=>False
 | .normal,st=>I1 pks n0 S H st.h (kK (jG ts st rs))
 | .ret,st=>I1 pks n0 S H st.h (kK (jG ts st rs))
 | .pan _,_=>False
section
variable {P:Program}{ts:Tis}{G:Cons}{n0:Nat}{S s:SV}{H h:List Ob}{rs:List ResultVar}{st:St}{pks:List Pk}
@[go_sem] theorem QG:I1 pks n0 S H h (some s)=(S=ra pks (yo n0 h s)∧fQ ⟨[],H⟩ n0 ⟨[],h⟩):=(rfl)
@[go_sem] theorem Lw:Mt pks n0 rs ts S H .normal st=I1 pks n0 S H st.h (kK (jG ts st rs)):=(rfl)
@[go_sem] theorem QH:Mt pks n0 rs ts S H .ret st=I1 pks n0 S H st.h (kK (jG ts st rs)):=(rfl)
end
end Go.Sx
end
section
namespace Go.Sx
open Go.RowKit
def Lx (h:List Ob):Option Con→Option HCon
 |some (.det p s) =>some (eM p (yo 0 (aH 3 s) (fe 3 0 s)) (h.map fun _=>.dead))
 |_=>none
def I2 (C:List SV→Option Con)(l:List SV)(h:List Ob):Option HCon:=Lx h (C (l.map (dH h 6)))
@[go_sem] theorem Ul {C:List SV→Option Con}{l:List SV}{h:List Ob}:I2 C l h=Lx h (C (l.map (dH h 6))):=(rfl)
@[go_sem] theorem SJ {h:List Ob}{p:Prop}{s:SV}:Lx h (some (.det p s))=some (eM p (yo 0 (aH 3 s) (fe 3 0 s)) (h.map fun _=>.dead)):=(rfl)
section
variable {P:Program}{F:Nat→Prop}{own:Own}{w w':World}
def I3 (own:Own):Own:=fun i=>(own i).map fun hd=>{ hd with bs:=[]}
theorem Ly {b:Nat}(hb:¬F b):¬bZ F (I3 own) b:=by
 rintro (hf| ⟨id,hd,e,hm⟩)
 ·exact hb hf
 ·unfold I3 at e
  cases h:own id with
  |none=>rw[h]at e;cases e
  |some x=>rw[h]at e;cases e;cases hm
theorem FnOk.eat {f:FuncId}{C:List SV→Option Con}(hf:FnOk P f C):FnOkO P f (I2 C) where
 enter:=fun l h c e=>by
  unfold I2 at e
  cases hc:C (l.map (dH h 6))with
  |none=>rw[hc]at e;cases e
  |some c'=>exact hf.enter _ c' hc
 calls:=fun l h c e hp F own w vs hH hr=>by
  unfold I2 at e
  cases hc:C (l.map (dH h 6))with
  |none=>rw[hc]at e;cases e
  |some c'=>
   rw[hc]at e
   cases c' with
   |det p s=>
    simp only[Lx,Option.some.injEq]at e
    subst e
    have n0:∀ {F':Nat→Prop} {w1:World},(∀ b,F' b→b<w1.heap.size)→Hp F' cw w1 []:=fun hf=>⟨(fun id hd h=>by cases h),hf,(fun id hd b h=>by cases h),(fun i j hi hj b h=>by cases h),(fun id hd b h=>by cases h),(fun id h=>by cases h)⟩
    have hE:∀ {id:Nat} {hd:Hd},I3 own id=some hd→hd.bs=[]∧id<h.length:=fun {id hd} h=>by
     unfold I3 at h
     cases ho:own id with
     |none=>rw[ho]at h;cases h
     |some x=>rw[ho]at h;cases h;exact⟨rfl,hH.dom id x ho⟩
    refine(hf.calls _ _ hc hp F w vs hH.foreign ⟨by simpa using hr.1,fun j s hj=>?_⟩).mono ?_
    ·obtain⟨x,hx,rfl⟩:=cr hj
     exact qO hH 6 x _ (hr.2 j x hx)
    ·rintro e w' (⟨s',u,own',h1,h2,h3,h4⟩ | ⟨x,hx,_⟩)
     ·cases h1
      obtain⟨own2,q1,q2,q3,q4⟩:=uf (n0 hH.foreign) (.inl fun b=>⟨fun h=>.inl h,fun h=>h.elim id fun⟨_,_,h,_⟩ =>by cases h⟩) h4 h3
      have q5:=I0 (n0:=0) q1 _ _ q3
      refine⟨(),I3 own,trivial,⟨u,h2,?_⟩,?_,?_,by simp⟩
      ·refine q5.carry ⟨fun id hd h=>by simp[D0]at h,fun b _ hb=>⟨Ly fun hf=>hb (.inl hf),rfl⟩⟩
      ·refine⟨fun id hd h=>by rw[List.length_map];exact(hE h).2,fun b hb=>Nat.lt_of_lt_of_le (hH.foreign b hb) h4.size,fun id hd b h hm=>?_,fun i j hi hj b h _ hm=>?_,fun id hd b h hm=>?_,fun id hd=>?_⟩
       ·rw[(hE h).1]at hm;cases hm
       ·rw[(hE h).1]at hm;cases hm
       ·rw[(hE h).1]at hm;cases hm
       ·rw[lA,List.getElem?_map]at hd
        cases ho:h[id]? <;>rw[ho]at hd <;>simp[cn]at hd
      ·refine⟨fun id hd h=>?_,fun id hd b h hm=>?_,h4.os,h4.tape,h4.output,h4.size,fun k hk=>h4.block k hk.1⟩
       ·exact⟨{ hd with bs:=[]},by show(own id).map _=_;rw[show own id=some hd from h];rfl,rfl,rfl,rfl⟩
       ·rw[(hE h).1]at hm;cases hm
     ·cases hx
   |_=>cases e
end
end Go.Sx
end
section
namespace Go.Sx
open Go.Proofs
set_option maxRecDepth 100000
set_option linter.unusedSimpArgs false
def iD:=({ no:=5,kind:=4,right:=0,since:=0,to:=0,parts:=[],of_:=3,at_:=0,known:=9}:Deed)
def fZ:=([({ no:=1,kind:=3,right:=0,since:=2,to:=0,parts:=[],of_:=0,at_:=0,known:=0}:Deed)])
def fj:=(df a7 fZ 0)
def fl:=(fj.1)
def fm:=(fl.length:Int)
def fo:=({ no:=3,kind:=2,right:=0,since:=0,to:=0,parts:=[({ farm:=1,share:=jR}:Part),({ farm:=2,share:=jR}:Part)],of_:=0,at_:=1,known:=2}:Deed)
def f9:=([fo])
def f_:=(kv a7 f9 iD)
def bI:=(f_.1)
def dg:=(bI.length:Int)
def ga:=(bI.getD 1 (default:Deed))
def gb:=(bS a7 bI 1 9)
def gc:=(bS a7 bI 1 2)
def gf:=(bS a7 bI 0 2)
def ew:=(gc.1)
def gh:=(gb.1)
def gi:=(gf.1)
def fJ:=(gh.length:Int)
def eY:=(ew.length:Int)
def fK:=(gi.length:Int)
def di:=(ew.getD 1 (default:Holding))
def cq:=(ew.getD 0 (default:Holding))
def bE:=(gh.getD 0 (default:Holding))
def a8:=(gi.getD 0 (default:Holding))
def jr:=(kv a7 bI fo)
def lO:=((bI.take (Int.toNat dg)).drop 1)
def gZ:=(aq a7 lO)
def ln:Bool:=(bif((((((((((((f_.2 !=0) ||(jr.2 !=171)) ||(gf.2 !=0)) ||(gc.2 !=0)) ||(gb.2 !=0)) ||((bS a7 ([]) 4 0).2 !=1)) ||(fj.2 !=0)) ||(dg !=2)) ||(fK !=1)) ||(eY !=2)) ||(fJ !=1)) ||(fm !=1))then false else(bif((gZ !=250) ||(ga.no !=5))then false else((((((a8.right==0)&&((a8.farm==0)&&((a8.litres==5)&&(a8.rank==7))))&&((bE.right==0)&&((bE.farm==0)&&((bE.litres==5)&&(bE.rank==7)))))&&((cq.right==0)&&((cq.farm==1)&&((cq.litres==3)&&(cq.rank==7)))))&&((di.right==0)&&((di.farm==2)&&((di.litres==2)&&(di.rank==7)))))&&((fl.getD 0 (0:Int)) ==1))))
def kG:Prop:=((fW a7 f9 iD)∧((fW a7 bI fo)∧((eX a7 bI 0 2)∧((eX a7 bI 1 2)∧((eX a7 bI 1 9)∧((eX a7 ([]) 4 0)∧((fY a7 fZ 0)∧(((((((((((((f_.2 !=0) ||(jr.2 !=171)) ||(gf.2 !=0)) ||(gc.2 !=0)) ||(gb.2 !=0)) ||((bS a7 ([]) 4 0).2 !=1)) ||(fj.2 !=0)) ||(dg !=2)) ||(fK !=1)) ||(eY !=2)) ||(fJ !=1)) ||(fm !=1))=false→((0≤1∧1≤dg∧dg≤dg)∧((dM a7 lO)∧(((gZ !=250)=false→(0≤1∧1<dg))∧(((gZ !=250) ||(ga.no !=5))=false→((0≤0∧0<fK)∧((((a8.right==0)&&((a8.farm==0)&&((a8.litres==5)&&(a8.rank==7))))=true→(0≤0∧0<fJ))∧(((((a8.right==0)&&((a8.farm==0)&&((a8.litres==5)&&(a8.rank==7))))&&((bE.right==0)&&((bE.farm==0)&&((bE.litres==5)&&(bE.rank==7)))))=true→(0≤0∧0<eY))∧((((((a8.right==0)&&((a8.farm==0)&&((a8.litres==5)&&(a8.rank==7))))&&((bE.right==0)&&((bE.farm==0)&&((bE.litres==5)&&(bE.rank==7)))))&&((cq.right==0)&&((cq.farm==1)&&((cq.litres==3)&&(cq.rank==7)))))=true→(0≤1∧1<eY))∧((((((a8.right==0)&&((a8.farm==0)&&((a8.litres==5)&&(a8.rank==7))))&&((bE.right==0)&&((bE.farm==0)&&((bE.litres==5)&&(bE.rank==7)))))&&((cq.right==0)&&((cq.farm==1)&&((cq.litres==3)&&(cq.rank==7)))))&&((di.right==0)&&((di.farm==2)&&((di.litres==2)&&(di.rank==7)))))=true→(0≤0∧0<fm))))))))))))))))))
@[go_sem] def tK:List SV→Option Con:=(pE (.det (kG) (.v (.bool (ln)))))
theorem yp:FnOk Tryz.prog 11 tK:=by
 have hG:ConsOk Tryz.prog (mkG [(13,fun l=>nA (cT [.st .district,.sl .deed,.st .deed] l)),(15,fun l=>fV (cT [.st .district,.sl .deed] l)),(18,fun l=>oe (cT [.st .district,.sl .deed,.o,.o] l)),(20,fun l=>lm (cT [.st .district,.sl .deed,.o] l)),(33,rT),(34,tI)] [(13,I2 (fun l=>nA (cT [.st .district,.sl .deed,.st .deed] l)))]):=ay (cgc (pA.norm [.st .district,.sl .deed,.st .deed]) (cgc (g_.norm [.st .district,.sl .deed]) (cgc (qE.norm [.st .district,.sl .deed,.o,.o]) (cgc (nZ.norm [.st .district,.sl .deed,.o]) (cgc xK (cgc ym cg0)))))) (cgc (FnOk.eat (pA.norm [.st .district,.sl .deed,.st .deed])) cg0)
 refine aU [.o] mixed am hG (fn:=Tryz.f11) (c:=ae Tryz.f11) (by kernel_rfl) (by kernel_rfl) (by kernel_rfl) (by kernel_rfl) (aI (fun hp=>?_))
 dsimp only[aG]at hp
 unfold kG at hp
 try simp only[iD,fZ,fj,fl,fm,fo,f9,f_,bI,dg,ga,gb,gc,gf,ew,gh,gi,fJ,eY,fK,di,cq,bE,a8,jr,lO,gZ]at hp
 refine⟨Nat.le_of_ble_eq_true rfl,L0,ah _,?_⟩
 ·unfold ae Tryz.f11
  try unfold ln
  simp (maxSteps:=1000000) only[go_sem,Nat.reduceBEq,Nat.reduceLeDiff,Nat.reduceLT,decide_true,Nat.reduceAdd,Nat.reduceSub,Nat.reduceMul,Int.reduceLE,Int.reduceLT,Int.reduceToNat,Int.reduceNeg,reduceCtorEq,iD,fZ,fj,fl,fm,fo,f9,f_,bI,dg,ga,gb,gc,gf,ew,gh,gi,fJ,eY,fK,di,cq,bE,a8,jr,lO,gZ]
  all_goals exact cl
end Go.Sx
end
section
namespace Go.Sx
open Go.Proofs
set_option maxRecDepth 100000
theorem tL (d:District)(l:List Deed)(known:Int):fY d l known∧
  df d l known=if aq d l≠0 then([],aq d l)else if 0≤known∧known≤1048576 then(qx (qC (stS (ph l 4096 known)) (B0 d)),0)else([],1):=by
 by_cases hc:aq d l=0
 ·have hD:=qz hc
  have hE:=((oP d l).1 hc).1
  have hw:(!(an known 0 1048576))= !decide (0≤known∧known≤1048576):=by
   congr 1
   rw[Bool.eq_iff_iff,oa,decide_eq_true_eq]
  obtain⟨c1,c2⟩:=u_ l 4096 known hD.len
  have hlen:(stS (ph l 4096 known)).length≤512:=by rw[vM];exact Nat.le_trans (List.length_filter_le _ _) hD.len
  obtain⟨f1,m,f2,f3,f4⟩:=zk hE (qF hD 4096 known) hlen
  refine⟨⟨mn d l,fun _ _=>⟨c1,by rw[c2];exact f1⟩⟩,?_⟩
  unfold df
  rw[if_neg (by simp[hc]),hc,hw,c2,f2]
  simp only[bne_self_eq_false,cond_false]
  by_cases hg:0≤known∧known≤1048576
  ·rw[decide_eq_true hg,if_pos hg];rfl
  ·rw[decide_eq_false hg,if_neg hg];rfl
 ·have hne:(aq d l !=0)=true:=by simpa using hc
  refine⟨⟨mn d l,(fun h=>by rw[hne]at h;cases h)⟩,?_⟩
  rw[if_pos hc]
  unfold df;rw[hne];rfl
theorem OA (a:Deed)(n:Int):decide (eo a n<0)=decide (a.no<n):=by
 unfold eo
 rw[mg]
 by_cases h:a.no<n
 ·simp[h]
 ·by_cases h2:a.no > n <;>simp[h,h2]
theorem OB (a:Deed)(n:Int):(eo a n==0)=decide (a.no=n):=by
 unfold eo
 rw[mg]
 by_cases h:a.no<n
 ·have:¬a.no=n:=by omega
  simp[h,this]
 ·by_cases h2:a.no > n
  ·have:¬a.no=n:=by omega
   simp[h,h2,this]
  ·have:a.no=n:=by omega
   simp[this]
theorem I4 {l:List Deed}(h:Asc l){i j:Nat}(h1:i<j)(h2:j<l.length):(l.getD i default).no< (l.getD j default).no:=by
 rw[qV l _ (by omega),qV l _ h2]
 exact List.pairwise_iff_getElem.1 h i j (by omega) h2 h1
theorem Mu {l:List Deed}(hA:Asc l)(hl:l.length≤4096)(n:Int):bJ l n∧∃ q:Nat,q≤l.length∧aw l n=((q:Int),decide (q<l.length∧(l.getD q default).no=n))∧(∀ i,i<q→(l.getD i default).no<n)∧∀ i,q≤i→i<l.length→n≤(l.getD i default).no:=by
 obtain⟨s1,r,s2,q,rfl,q1,q2,q3,q4⟩:=As (step:=ap l n) (p:=aJ l n) (fun h=>decide ((l.getD h default).no<n)) 0 l.length (Nat.zero_le _)
  (fun i j h1 h2 h3 h4=>by
   simp only[decide_eq_true_eq]at h4 ⊢
   rcases Nat.eq_or_lt_of_le h2 with rfl|h2
   ·exact h4
   ·have:=I4 hA h2 h3;omega)
  (fun k i j h1 h2 h3=>by
   have e:decide ((i:Int) < (j:Int))=true:=by rw[decide_eq_true_eq];omega
   unfold aJ ap
   simp only[BZ (i:=i) (j:=j) (by omega) (by omega),e,cond_true,Int.toNat_natCast,OA]
   have w2:IntKind.i64.wrap ((((i+j) / 2:Nat):Int)+1)=(((i+j) / 2+1:Nat):Int):=by rw[aT (by omega) (by omega)];omega
   rw[w2]
   exact⟨fun _=>by omega,rfl⟩)
  (fun k i=>by
   have e:decide ((i:Int) < (i:Int))=false:=by simp
   unfold aJ ap
   simp only[e,cond_false]
   exact⟨fun h=>by simp at h,trivial⟩) (l.length+1) 0 (by omega)
 have s2':ak (ap l n) (l.length+1) 0 (0,(l.length:Int))=.inl (q:Int):=s2
 refine⟨fun _=>⟨s1,(fun z h=>by rw[s2']at h;cases h),fun x hx h=>?_⟩,q,q2,?_,fun i hi=>?_,fun i h1 h2=>?_⟩
 ·rw[s2']at hx;cases hx
  rw[decide_eq_true_eq]at h
  omega
 ·unfold aw
  rw[s2']
  simp only[Int.toNat_natCast,OB]
  rw[Prod.mk.injEq]
  refine⟨rfl,?_⟩
  rw[Bool.eq_iff_iff,Bool.and_eq_true,decide_eq_true_eq,decide_eq_true_eq,decide_eq_true_eq]
  omega
 ·simpa using q3 i (Nat.zero_le _) hi
 ·have:=q4 i h1 h2
  simp only[decide_eq_false_iff_not]at this
  omega
abbrev exS:Deed:= { no:=3,kind:=2,right:=0,since:=0,to:=0,parts:=[{ farm:=1,share:=jR},{ farm:=2,share:=jR}],of_:=0,at_:=1,known:=2}
abbrev exV:Deed:= { no:=5,kind:=4,right:=0,since:=0,to:=0,parts:=[],of_:=3,at_:=0,known:=9}
theorem e19:f_=([exS,exV],0):=by kernel_rfl
theorem e18:bI=[exS,exV]:=by kernel_rfl
theorem e2:jr=([],171):=by kernel_rfl
theorem eC:aq a7 [exS,exV]=0:=by kernel_rfl
theorem eH (hour known:Int)(L:List Holding)(h1:decide (0≤hour∧hour<a7.hours∧0≤known∧known≤1048576)=true)(h2:nE a7 (fM a7 [exS,exV] hour known)=L):bS a7 bI hour known=(L,0):=by
 rw[e18,(vb _ _ _ _).2,if_neg (by rw[eC];decide),if_pos (of_decide_eq_true h1),h2]
theorem e13:gf=([{ right:=0,farm:=0,litres:=5,rank:=7}],0):=eH 0 2 _ (by kernel_rfl) (by kernel_rfl)
theorem e14:gc=([{ right:=0,farm:=1,litres:=3,rank:=7},{ right:=0,farm:=2,litres:=2,rank:=7}],0):=eH 1 2 _ (by kernel_rfl) (by kernel_rfl)
theorem e15:gb=([{ right:=0,farm:=0,litres:=5,rank:=7}],0):=eH 1 9 _ (by kernel_rfl) (by kernel_rfl)
theorem eN:bS a7 [] 4 0=([],1):=by
 have hc:aq a7 []=0:=by kernel_rfl
 rw[(vb _ _ _ _).2,if_neg (by rw[hc];decide),if_neg (of_decide_eq_false (by kernel_rfl))]
theorem e24:fj=([1],0):=by
 have hc:aq a7 fZ=0:=by kernel_rfl
 have he:qC (stS (ph fZ 4096 0)) (B0 a7)=[1]:=by kernel_rfl
 unfold fj
 rw[(tL _ _ _).2,if_neg (by rw[hc];decide),if_pos (by decide),he]
 simp[qx]
theorem e0:gZ=250:=by kernel_rfl
theorem e7:fK=1:=by unfold fK gi;rw[e13];rfl
theorem e8:eY=2:=by unfold eY ew;rw[e14];rfl
theorem e9:fJ=1:=by unfold fJ gh;rw[e15];rfl
theorem e17:dg=2:=by unfold dg;rw[e18];rfl
theorem e22:fm=1:=by unfold fm fl;rw[e24];rfl
theorem e3':a8= { right:=0,farm:=0,litres:=5,rank:=7}:=by unfold a8 gi;rw[e13];rfl
theorem e4':bE= { right:=0,farm:=0,litres:=5,rank:=7}:=by unfold bE gh;rw[e15];rfl
theorem e5':cq= { right:=0,farm:=1,litres:=3,rank:=7}:=by unfold cq ew;rw[e14];rfl
theorem e6':di= { right:=0,farm:=2,litres:=2,rank:=7}:=by unfold di ew;rw[e14];rfl
theorem e16:ga=exV:=by unfold ga;rw[e18];rfl
theorem e23:fl=[1]:=by unfold fl;rw[e24]
theorem OC:ln=true:=by
 unfold ln
 rw[e19,e2,e13,e14,e15,eN,e24,e17,e7,e8,e9,e22,e0,e16,e3',e4',e5',e6',e23]
 rfl
theorem OD:fW a7 f9 iD:=by
 refine⟨mn _ _,fun _=>?_⟩
 have hA:Asc f9:=List.pairwise_singleton _ _
 refine⟨(Mu hA (by decide) _).1,fun _=>⟨by decide,by kernel_rfl,?_,mn _ _⟩⟩
 unfold bP
 exact⟨by decide,fun _ _ _=>by decide⟩
theorem OE:fW a7 bI fo:=by
 refine⟨mn _ _,fun _=>?_⟩
 have hA:Asc bI:=by rw[e18];exact(qz eC).asc
 refine⟨(Mu hA (by rw[e18];decide) _).1,fun h=>?_⟩
 have:(aw bI fo.no).2=true:=by kernel_rfl
 rw[this]at h;cases h
theorem OF:kG:=by
 unfold kG
 refine⟨OD,OE,(vb _ _ _ _).1,(vb _ _ _ _).1,(vb _ _ _ _).1,(vb _ _ _ _).1,(tL _ _ _).1,fun _=>?_⟩
 rw[e17,e7,e8,e9]
 simp[mn,e22]
end Go.Sx
end
section
namespace Go.Sx
open Go.Proofs
set_option maxRecDepth 100000
set_option linter.unusedSimpArgs false
@[go_sem] def kH (a0:Deed)(a1:Deed)(k_0:Nat)(s_0:Unit):Unit⊕Unit:=(bif(!(((a0.parts.getD k_0 (default:Part)).farm==(a1.parts.getD k_0 (default:Part)).farm)&&(((a0.parts.getD k_0 (default:Part)).share.n==(a1.parts.getD k_0 (default:Part)).share.n)&&((a0.parts.getD k_0 (default:Part)).share.d==(a1.parts.getD k_0 (default:Part)).share.d))))then .inl ()else .inr ())
def i_ (a0:Deed)(a1:Deed)(k_0:Nat)(s_0:Unit):Prop:=(a0.parts.length≤bv→(0≤(k_0:Int)∧(k_0:Int) < (a1.parts.length:Int)))
def nG (a0:Deed)(a1:Deed):Bool:=(bif(((((((((a0.no !=a1.no) ||(a0.kind !=a1.kind)) ||(a0.right !=a1.right)) ||(a0.since !=a1.since)) ||(a0.to !=a1.to)) ||(a0.of_ !=a1.of_)) ||(a0.at_ !=a1.at_)) ||(a0.known !=a1.known)) ||((a0.parts.length:Int) !=(a1.parts.length:Int)))then false else(match ak (kH a0 a1) a0.parts.length 0 ()with| .inl x_0_0=>false| .inr s_0=>true))
def lp (a0:Deed)(a1:Deed):Prop:=((((((((((a0.no !=a1.no) ||(a0.kind !=a1.kind)) ||(a0.right !=a1.right)) ||(a0.since !=a1.since)) ||(a0.to !=a1.to)) ||(a0.of_ !=a1.of_)) ||(a0.at_ !=a1.at_)) ||(a0.known !=a1.known)) ||((a0.parts.length:Int) !=(a1.parts.length:Int)))=false→okI (kH a0 a1) (i_ a0 a1) a0.parts.length 0 ())
@[go_sem] def oT:List SV→Option Con:=(pD .deed fun a0=>(pD .deed fun a1=>(pE (.det (lp a0 a1) (.v (.bool (nG a0 a1)))))))
theorem tM:FnOk Tryz.prog 30 oT:=by
 have hG:ConsOk Tryz.prog (mkG [] []):=ay cg0 cg0
 refine aU [.o] mixed am hG (fn:=Tryz.f30) (c:=ae Tryz.f30) (by kernel_rfl) (by kernel_rfl) (by kernel_rfl) (by kernel_rfl) (bb fun a0=>(bb fun a1=>(aI (fun hp=>?_))))
 dsimp only[aG]at hp
 unfold lp at hp
 refine⟨Nat.le_of_ble_eq_true rfl,(fun id st=>bif Nat.beq id 0 then some (LCR (ρ:=Unit) (σ:=Unit) 2 [] [0,1] (fun k_0 s_0=>⟨[(2,.ptr 0 0),(3,.ptr 1 0),(5,.v (.int .i64 (k_0:Int)))],[.cells (cellsOf .deed a0),.cells (cellsOf .deed a1)]⟩) (kH a0 a1) (i_ a0 a1) a0.parts.length () (True) (fun _=>.ret) (fun x_0_0=>⟨[(4,.v (.bool false))],[.dead,.dead]⟩) st)else none),?_,?_⟩
 ·unfold ae Tryz.f30
  simp only[al,true_and,and_true]
  ·refine c_ (a0.parts.length≤bv) mixed am hG (by kernel_rfl) (fun _=>rfl) (a0.parts.length:Int) rfl gM (fun hb0 k_0 s_0 hlt0 hq0 hw hc=>⟨L0,ah _,?_⟩) (fun hb0 s_0 hc=>?_) fun hb0 k_0 s_0=>?_
   ·unfold i_ at hq0
    try simp only[hw,Int.toNat_natCast]at hq0
    exact qq
   ·exact qr
   ·simp only[go_sem,Nat.reduceBEq,Nat.reduceLeDiff,Nat.reduceLT,decide_true,Nat.reduceAdd,Nat.reduceSub,Nat.reduceMul,Int.reduceLE,Int.reduceLT,Int.reduceToNat,Int.reduceNeg,reduceCtorEq,hb0]
 ·unfold ae Tryz.f30
  try unfold nG
  simp only[go_sem,Nat.reduceBEq,Nat.reduceLeDiff,Nat.reduceLT,decide_true,Nat.reduceAdd,Nat.reduceSub,Nat.reduceMul,Int.reduceLE,Int.reduceLT,Int.reduceToNat,Int.reduceNeg,reduceCtorEq]
  all_goals exact cl
@[go_sem] def og (a:List Deed)(b:List Deed)(k_0:Nat)(s_0:Unit):Unit⊕Unit:=(bif(!(nG (a.getD k_0 (default:Deed)) (b.getD k_0 (default:Deed))))then .inl ()else .inr ())
def mH (a:List Deed)(b:List Deed)(k_0:Nat)(s_0:Unit):Prop:=(a.length≤bv→((0≤(k_0:Int)∧(k_0:Int) < (b.length:Int))∧(lp (a.getD k_0 (default:Deed)) (b.getD k_0 (default:Deed)))))
def xL (a:List Deed)(b:List Deed):Bool:=(bif((a.length:Int) !=(b.length:Int))then false else(match ak (og a b) a.length 0 ()with| .inl x_0_0=>false| .inr s_0=>true))
def tN (a:List Deed)(b:List Deed):Prop:=(a.length≤bv→(b.length≤bv→(((a.length:Int) !=(b.length:Int))=false→okI (og a b) (mH a b) a.length 0 ())))
@[go_sem] def AE:List SV→Option Con:=(pR .deed fun a=>(pR .deed fun b=>(pE (.det (tN a b) (.v (.bool (xL a b)))))))
theorem Jt:FnOk Tryz.prog 17 AE:=by
 have hG:ConsOk Tryz.prog (mkG [(30,fun l=>oT (cT [.st .deed,.st .deed] l))] []):=ay (cgc (tM.norm [.st .deed,.st .deed]) cg0) cg0
 refine aU [.o] mixed am hG (fn:=Tryz.f17) (c:=ae Tryz.f17) (by kernel_rfl) (by kernel_rfl) (by kernel_rfl) (by kernel_rfl) (dw fun a=>(dw fun b=>(aI (fun hp=>?_))))
 dsimp only[aG]at hp
 unfold tN at hp
 refine⟨Nat.le_of_ble_eq_true rfl,(fun id st=>bif Nat.beq id 0 then some (LCR (ρ:=Unit) (σ:=Unit) 0 [] [] (fun k_0 s_0=>⟨[(0,.rs .deed a),(1,.rs .deed b),(5,.v (.int .i64 (k_0:Int)))],[]⟩) (og a b) (mH a b) a.length () (True) (fun _=>.ret) (fun x_0_0=>⟨[(4,.v (.bool false))],[]⟩) st)else none),?_,?_⟩
 ·unfold ae Tryz.f17
  simp only[al,true_and,and_true]
  ·refine c_ (a.length≤bv) mixed am hG (by kernel_rfl) (fun _=>rfl) (a.length:Int) rfl gM (fun hb0 k_0 s_0 hlt0 hq0 hw hc=>⟨L0,ah _,?_⟩) (fun hb0 s_0 hc=>?_) fun hb0 k_0 s_0=>?_
   ·unfold mH at hq0
    try simp only[hw,Int.toNat_natCast]at hq0
    exact jh
   ·exact ji
   ·simp only[go_sem,Nat.reduceBEq,Nat.reduceLeDiff,Nat.reduceLT,decide_true,Nat.reduceAdd,Nat.reduceSub,Nat.reduceMul,Int.reduceLE,Int.reduceLT,Int.reduceToNat,Int.reduceNeg,reduceCtorEq,hb0]
 ·unfold ae Tryz.f17
  try unfold xL
  simp only[go_sem,Nat.reduceBEq,Nat.reduceLeDiff,Nat.reduceLT,decide_true,Nat.reduceAdd,Nat.reduceSub,Nat.reduceMul,Int.reduceLE,Int.reduceLT,Int.reduceToNat,Int.reduceNeg,reduceCtorEq]
  all_goals exact cl
@[go_sem] def d7 (a:List Holding)(b:List Holding)(k_0:Nat)(s_0:Unit):Unit⊕Unit:=(bif(!(((a.getD k_0 (default:Holding)).right==(b.getD k_0 (default:Holding)).right)&&(((a.getD k_0 (default:Holding)).farm==(b.getD k_0 (default:Holding)).farm)&&(((a.getD k_0 (default:Holding)).litres==(b.getD k_0 (default:Holding)).litres)&&((a.getD k_0 (default:Holding)).rank==(b.getD k_0 (default:Holding)).rank)))))then .inl ()else .inr ())
def gj (a:List Holding)(b:List Holding)(k_0:Nat)(s_0:Unit):Prop:=(a.length≤bv→(0≤(k_0:Int)∧(k_0:Int) < (b.length:Int)))
def d9 (a:List Holding)(b:List Holding):Bool:=(bif((a.length:Int) !=(b.length:Int))then false else(match ak (d7 a b) a.length 0 ()with| .inl x_0_0=>false| .inr s_0=>true))
def fG (a:List Holding)(b:List Holding):Prop:=(a.length≤bv→(b.length≤bv→(((a.length:Int) !=(b.length:Int))=false→okI (d7 a b) (gj a b) a.length 0 ())))
@[go_sem] def mt:List SV→Option Con:=(pR .holding fun a=>(pR .holding fun b=>(pE (.det (fG a b) (.v (.bool (d9 a b)))))))
theorem pL:FnOk Tryz.prog 22 mt:=by
 have hG:ConsOk Tryz.prog (mkG [] []):=ay cg0 cg0
 refine aU [.o] mixed am hG (fn:=Tryz.f22) (c:=ae Tryz.f22) (by kernel_rfl) (by kernel_rfl) (by kernel_rfl) (by kernel_rfl) (dw fun a=>(dw fun b=>(aI (fun hp=>?_))))
 dsimp only[aG]at hp
 unfold fG at hp
 refine⟨Nat.le_of_ble_eq_true rfl,(fun id st=>bif Nat.beq id 0 then some (LCR (ρ:=Unit) (σ:=Unit) 0 [] [] (fun k_0 s_0=>⟨[(0,.rs .holding a),(1,.rs .holding b),(5,.v (.int .i64 (k_0:Int)))],[]⟩) (d7 a b) (gj a b) a.length () (True) (fun _=>.ret) (fun x_0_0=>⟨[(4,.v (.bool false))],[]⟩) st)else none),?_,?_⟩
 ·unfold ae Tryz.f22
  simp only[al,true_and,and_true]
  ·refine c_ (a.length≤bv) mixed am hG (by kernel_rfl) (fun _=>rfl) (a.length:Int) rfl gM (fun hb0 k_0 s_0 hlt0 hq0 hw hc=>⟨L0,ah _,?_⟩) (fun hb0 s_0 hc=>?_) fun hb0 k_0 s_0=>?_
   ·unfold gj at hq0
    try simp only[hw,Int.toNat_natCast]at hq0
    exact jh
   ·exact ji
   ·simp only[go_sem,Nat.reduceBEq,Nat.reduceLeDiff,Nat.reduceLT,decide_true,Nat.reduceAdd,Nat.reduceSub,Nat.reduceMul,Int.reduceLE,Int.reduceLT,Int.reduceToNat,Int.reduceNeg,reduceCtorEq,hb0]
 ·unfold ae Tryz.f22
  try unfold d9
  simp only[go_sem,Nat.reduceBEq,Nat.reduceLeDiff,Nat.reduceLT,decide_true,Nat.reduceAdd,Nat.reduceSub,Nat.reduceMul,Int.reduceLE,Int.reduceLT,Int.reduceToNat,Int.reduceNeg,reduceCtorEq]
  all_goals exact cl
@[go_sem] def fH (a:List Int)(b:List Int)(k_0:Nat)(s_0:Unit):Unit⊕Unit:=(bif((a.getD k_0 (0:Int)) !=(b.getD k_0 (0:Int)))then .inl ()else .inr ())
def ja (a:List Int)(b:List Int)(k_0:Nat)(s_0:Unit):Prop:=(a.length≤bv→(0≤(k_0:Int)∧(k_0:Int) < (b.length:Int)))
def iE (a:List Int)(b:List Int):Bool:=(bif((a.length:Int) !=(b.length:Int))then false else(match ak (fH a b) a.length 0 ()with| .inl x_0_0=>false| .inr s_0=>true))
def iQ (a:List Int)(b:List Int):Prop:=(a.length≤bv→(b.length≤bv→(((a.length:Int) !=(b.length:Int))=false→okI (fH a b) (ja a b) a.length 0 ())))
@[go_sem] def oU:List SV→Option Con:=(pR .int fun a=>(pR .int fun b=>(pE (.det (iQ a b) (.v (.bool (iE a b)))))))
theorem tO:FnOk Tryz.prog 23 oU:=by
 have hG:ConsOk Tryz.prog (mkG [] []):=ay cg0 cg0
 refine aU [.o] mixed am hG (fn:=Tryz.f23) (c:=ae Tryz.f23) (by kernel_rfl) (by kernel_rfl) (by kernel_rfl) (by kernel_rfl) (dw fun a=>(dw fun b=>(aI (fun hp=>?_))))
 dsimp only[aG]at hp
 unfold iQ at hp
 refine⟨Nat.le_of_ble_eq_true rfl,(fun id st=>bif Nat.beq id 0 then some (LCR (ρ:=Unit) (σ:=Unit) 0 [] [] (fun k_0 s_0=>⟨[(0,.rs .int a),(1,.rs .int b),(5,.v (.int .i64 (k_0:Int)))],[]⟩) (fH a b) (ja a b) a.length () (True) (fun _=>.ret) (fun x_0_0=>⟨[(4,.v (.bool false))],[]⟩) st)else none),?_,?_⟩
 ·unfold ae Tryz.f23
  simp only[al,true_and,and_true]
  ·refine c_ (a.length≤bv) mixed am hG (by kernel_rfl) (fun _=>rfl) (a.length:Int) rfl gM (fun hb0 k_0 s_0 hlt0 hq0 hw hc=>⟨L0,ah _,?_⟩) (fun hb0 s_0 hc=>?_) fun hb0 k_0 s_0=>?_
   ·unfold ja at hq0
    try simp only[hw,Int.toNat_natCast]at hq0
    exact jh
   ·exact ji
   ·simp only[go_sem,Nat.reduceBEq,Nat.reduceLeDiff,Nat.reduceLT,decide_true,Nat.reduceAdd,Nat.reduceSub,Nat.reduceMul,Int.reduceLE,Int.reduceLT,Int.reduceToNat,Int.reduceNeg,reduceCtorEq,hb0]
 ·unfold ae Tryz.f23
  try unfold iE
  simp only[go_sem,Nat.reduceBEq,Nat.reduceLeDiff,Nat.reduceLT,decide_true,Nat.reduceAdd,Nat.reduceSub,Nat.reduceMul,Int.reduceLE,Int.reduceLT,Int.reduceToNat,Int.reduceNeg,reduceCtorEq]
  all_goals exact cl
@[go_sem] def tP (l_:List Deed)(k_0:Nat)(s_0:Unit):Unit⊕Unit:=(bif(decide ((((l_.getD k_0 (default:Deed)).parts).length:Int) > 100))then .inl ()else .inr ())
def qX (d:District)(l_:List Deed):Bool:=(bif((decide ((l_.length:Int) > 512))&&(decide ((l_.length:Int)≤700)))then(qQ d)else(bif((((decide ((l_.length:Int) > 60)) ||(!(qQ d))) ||((decide ((d.rights.length:Int) > 40))&&(decide ((d.rights.length:Int)≤256)))) ||((decide ((d.farms.length:Int) > 60))&&(decide ((d.farms.length:Int)≤600))))then false else(match ak (tP l_) l_.length 0 ()with| .inl x_0_0=>false| .inr s_0=>true)))
@[go_sem] def ve:List SV→Option Con:=(pD .district fun d=>(pR .deed fun l_=>(pE (.det True (.v (.bool (qX d l_)))))))
theorem AF:FnOk Tryz.prog 12 ve:=by
 have hG:ConsOk Tryz.prog (mkG [(35,fun l=>uV (cT [.st .district] l))] []):=ay (cgc (Ai.norm [.st .district]) cg0) cg0
 refine aU [.o] mixed am hG (fn:=Tryz.f12) (c:=ae Tryz.f12) (by kernel_rfl) (by kernel_rfl) (by kernel_rfl) (by kernel_rfl) (bb fun d=>(dw fun l_=>(aI (fun hp=>?_))))
 dsimp only[aG]at hp
 refine⟨Nat.le_of_ble_eq_true rfl,(fun id st=>bif Nat.beq id 0 then some (LCR (ρ:=Unit) (σ:=Unit) 1 [] [0] (fun k_0 s_0=>⟨[(1,.rs .deed l_),(5,.v (.int .i64 (k_0:Int)))],[.dead]⟩) (tP l_) pT l_.length () (True) (fun _=>.ret) (fun x_0_0=>⟨[(4,.v (.bool false))],[.dead]⟩) st)else none),?_,?_⟩
 ·unfold ae Tryz.f12
  simp only[al,true_and,and_true]
  ·refine c_ (l_.length≤bv) mixed am hG (by kernel_rfl) (fun _=>rfl) (l_.length:Int) rfl gM (fun hb0 k_0 s_0 hlt0 _ hw hc=>⟨L0,ah _,?_⟩) (fun hb0 s_0 hc=>?_) fun hb0 k_0 s_0=>?_
   ·exact fS
   ·exact fT
   ·simp only[go_sem,Nat.reduceBEq,Nat.reduceLeDiff,Nat.reduceLT,decide_true,Nat.reduceAdd,Nat.reduceSub,Nat.reduceMul,Int.reduceLE,Int.reduceLT,Int.reduceToNat,Int.reduceNeg,reduceCtorEq,hb0]
 ·unfold ae Tryz.f12
  try unfold qX
  simp only[go_sem,Nat.reduceBEq,Nat.reduceLeDiff,Nat.reduceLT,decide_true,Nat.reduceAdd,Nat.reduceSub,Nat.reduceMul,Int.reduceLE,Int.reduceLT,Int.reduceToNat,Int.reduceNeg,reduceCtorEq]
  all_goals exact cl
end Go.Sx
end
section
namespace Go.Sx
open Go.Proofs
set_option maxRecDepth 100000
set_option linter.unusedSimpArgs false
end Go.Sx
end
section
namespace Go.Sx
open Go.Proofs
theorem vN {α:Type}(s:List α)(x:α):(s++[x]).length=s.length+1:=by simp
theorem Lz (a b:List Holding):fG a b:=fun _ _ h=>iL _ _ _ fun j _ _ hj _=>by
 simp only[bne_eq_false_iff_eq]at h
 omega
theorem D1 (a:List Holding):d9 a a=true:=by
 unfold d9
 have e:ak (d7 a a) a.length 0 ()=.inr ():=dF.2 fun j _=>by
  unfold d7;simp
 rw[e];simp
theorem LA {l:List Deed}(h:Asc l){x y:Deed}(hx:x∈l)(hy:y∈l)(e:x.no=y.no):x=y:=by
 rw[←qy h hx,←qy h hy,e]
theorem Deeds.target {d:District}{l:List Deed}(h:Deeds d l){x y:Deed}(hx:x∈l)(hk:x.kind=4)(hy:y∈l)(e:y.no=x.of_):y.kind≠4∧y.known≤x.known∧y.no<x.no:=by
 obtain⟨z,hz,h1,h2,h3,h4⟩:=h.void x hx hk
 have:y=z:=LA h.asc hy hz (by rw[e,h1])
 rw[this];exact⟨h2,h3,h4⟩
theorem xM {l:List Deed}{known n:Int}:iA l known n=true↔∃ u∈l,u.kind=4∧u.known≤known∧u.of_=n:=by
 unfold iA
 rw[List.any_eq_true]
 simp only[Bool.and_eq_true,beq_iff_eq,decide_eq_true_eq,and_assoc]
def lv (l:List Deed)(hour known:Int)(x:Deed):Bool:= !((((x.kind==4) ||(decide (x.known > known))) ||(decide (x.at_ > hour))) ||iA l known x.no)
end Go.Sx
end
section
namespace Go.Sx
open Go.Proofs
set_option maxRecDepth 100000
set_option linter.unusedSimpArgs false
end Go.Sx
end
section
namespace Go.Sx
open Go.Proofs
set_option maxRecDepth 100000
set_option linter.unusedSimpArgs false
end Go.Sx
end
section
namespace Go.Sx
open Go.Proofs
def LB (r:Int):List Holding→Int
 | [] =>0
 |x::l=>(if x.right=r then x.litres else 0)+LB r l
theorem AG {d:District}{r:Int}{L:Int}:∀ (ds:List Deed) (B:Int→Int→Int),(∀ x∈ds,Fit d x∧x.kind≠4)→Good d.farms.length L (B r)→Good d.farms.length L (j5 ds B r)∧((∀ x∈ds,x.right=r→x.kind≠3)→tot d.farms.length (j5 ds B r)=tot d.farms.length (B r))
 | [],B,_,hg=>⟨hg,fun _=>rfl⟩
 |x::ds,B,h,hg=>by
  have hx:=h x List.mem_cons_self
  have h1:Good d.farms.length L (h_ x B r)∧((x.right=r→x.kind≠3)→tot d.farms.length (h_ x B r)=tot d.farms.length (B r)):=by
   unfold h_
   by_cases e:r=x.right
   ·rw[if_pos e]
    obtain⟨q1,q2⟩:=Cj hx.1 hx.2 hg
    exact⟨q1,fun hk=>q2 (hk e.symm)⟩
   ·rw[if_neg e];exact⟨hg,fun _=>rfl⟩
  obtain⟨q1,q2⟩:=AG ds (h_ x B) (fun y hy=>h y (List.mem_cons_of_mem _ hy)) h1.1
  exact⟨q1,fun hk=>(q2 fun y hy=>hk y (List.mem_cons_of_mem _ hy)).trans (h1.2 (hk x List.mem_cons_self))⟩
theorem Cm {d:District}{r:Int}(hr:¬ (0≤r∧r< (d.rights.length:Int)∧(d.rights.getD r.toNat default).kind=1)):∀ (ds:List Deed) (B:Int→Int→Int),(∀ x∈ds,Fit d x∧x.kind≠4)→j5 ds B r=B r
 | [],B,_=>rfl
 |x::ds,B,h=>by
  have h1:=h x List.mem_cons_self
  have h2:=h1.1.held h1.2
  show j5 ds (h_ x B) r=_
  rw[Cm hr ds _ fun y hy=>h y (List.mem_cons_of_mem _ hy)]
  unfold h_
  rw[if_neg (fun e=>hr (by rw[e];exact⟨h2.1,h2.2.1,h2.2.2.1⟩))]
theorem t0:∀ n,tot n (fun _=>0)=0:=fun n=>by
 induction n with
 |zero=>rfl
 |succ n ih=>unfold tot;rw[ih];rfl
theorem E8 {d:District}(h:aV d=0){k:Nat}(hk:k<d.rights.length)(ht:(d.rights.getD k default).kind=1):Good d.farms.length (d.rights.getD k default).litres (B0 d k)∧tot d.farms.length (B0 d k)=(d.rights.getD k default).litres:=by
 have hto:=tF h hk ht
 have hl:=hto.l0
 have e:B0 d k=fI (fun _=>0) (d.rights.getD k default).farm (d.rights.getD k default).litres:=by
  funext f
  unfold B0 fI
  rw[Int.toNat_natCast]
  by_cases hf:f=(d.rights.getD k default).farm
  ·rw[if_pos ⟨by omega,by omega,ht,hf.symm⟩,if_pos hf]
  ·rw[if_neg (fun h=>hf h.2.2.2.symm),if_neg hf]
 rw[e]
 refine⟨Good.put (L:=0) ⟨fun _=>Int.le_refl _,fun f hf=>absurd rfl hf,by rw[t0];exact Int.le_refl _⟩ hto.f0 hto.f1 (by omega) (by rw[t0];omega),?_⟩
 rw[pi _ _ _ _ hto.f0 hto.f1,t0];omega
theorem LD {d:District}{r:Int}(hr:¬ (0≤r∧r< (d.rights.length:Int)∧(d.rights.getD r.toNat default).kind=1)):B0 d r=fun _=>0:=by
 funext f
 unfold B0
 rw[if_neg (fun h=>hr ⟨h.1,h.2.1,h.2.2.1⟩)]
structure Held (d:District)(B:Int→Int→Int):Prop where
 nn:∀ r f,0≤B r f
 take:∀ k,k<d.rights.length→(d.rights.getD k default).kind=1→Good d.farms.length (d.rights.getD k default).litres (B k)
 other:∀ r:Int,¬ (0≤r∧r< (d.rights.length:Int)∧(d.rights.getD r.toNat default).kind=1)→B r=fun _=>0
theorem I5 {d:District}(h:aV d=0){ds:List Deed}(hd:∀ x∈ds,Fit d x∧x.kind≠4):Held d (j5 ds (B0 d)):=by
 have ht:∀ k,k<d.rights.length→(d.rights.getD k default).kind=1→Good d.farms.length (d.rights.getD k default).litres (j5 ds (B0 d) k):=fun k hk hkk=>(AG ds _ hd (E8 h hk hkk).1).1
 have ho:∀ r:Int,¬ (0≤r∧r< (d.rights.length:Int)∧(d.rights.getD r.toNat default).kind=1)→j5 ds (B0 d) r=fun _=>0:=fun r hr=>(Cm hr ds _ hd).trans (LD hr)
 refine⟨fun r f=>?_,ht,ho⟩
 by_cases hr:0≤r∧r< (d.rights.length:Int)∧(d.rights.getD r.toNat default).kind=1
 ·have:=(ht r.toNat (by omega) hr.2.2).nn f
  rwa[Int.toNat_of_nonneg hr.1]at this
 ·rw[ho r hr];exact Int.le_refl _
theorem Held.le {d:District}{B:Int→Int→Int}(h:Held d B)(he:aV d=0)(r f:Int):B r f≤1073741824:=by
 by_cases hr:0≤r∧r< (d.rights.length:Int)∧(d.rights.getD r.toNat default).kind=1
 ·have hg:=h.take r.toNat (by omega) hr.2.2
  have ht:=tF he (k:=r.toNat) (by omega) hr.2.2
  have:=hg.le (by have:=ht.l0;omega) f
  rw[Int.toNat_of_nonneg hr.1]at this
  have:=ht.l1
  omega
 ·rw[h.other r hr];simp
theorem Held.tot {d:District}{B:Int→Int→Int}(h:Held d B)(he:aV d=0){k:Nat}(hk:k<d.rights.length):0≤Go.Sx.tot d.farms.length (B k)∧Go.Sx.tot d.farms.length (B k)≤1073741824:=by
 refine⟨DW (h.nn k) _,?_⟩
 by_cases hkk:(d.rights.getD k default).kind=1
 ·have:=(h.take k hk hkk).tot
  have:=(tF he hk hkk).l1
  omega
 ·rw[h.other k (fun hr=>hkk (by rw[Int.toNat_natCast]at hr;exact hr.2.2)),t0];omega
end Go.Sx
end
section
namespace Go.Sx
open Go.Proofs
set_option maxRecDepth 100000
set_option linter.unusedSimpArgs false
theorem Cn {p:Prop}(h:p:=by(first|done|(repeat' (first|with_reducible refine And.intro ?_ ?_|((with_reducible show _≠_);first|assumption|omega|(simp_all [aX,bu];done) |grind) |with_reducible intro _)) <;>(first|done|with_reducible exact Empty.elim ‹Empty› |with_reducible assumption|rfl|omega|assumption|decide|exact fk [0,1,2] |exact fk [0,1,5] |exact czl|(simp only[*,cond_true,cond_false,Bool.not_true,Bool.not_false,go_sem,Nat.reduceBEq,Nat.reduceLeDiff,Nat.reduceLT,decide_true,Nat.reduceAdd,Nat.reduceSub,Nat.reduceMul,Int.reduceLE,Int.reduceLT,Int.reduceToNat,Int.reduceNeg,reduceCtorEq];(repeat' (first|with_reducible refine And.intro ?_ ?_|((with_reducible show _≠_);first|assumption|omega|(simp_all [aX,bu];done) |grind) |with_reducible intro _)) <;>(first|done|assumption|rfl|omega|decide|exact fk [0,1,2] |exact fk [0,1,5] |(simp_all [aX,bu];done))) |(simp_all [okI,aX,bu];done) |(simp_all [aX,bu];(first|done|exact fk2 [0,1,2] |exact fk2 [0,1,5])) |exact fk2 [0,1,2] |exact fk2 [0,1,5] |(simp_all only[aX,bu,cond_true,cond_false];(first|done|exact fk [0,1,2] |exact fk [0,1,5] |exact fk2 [0,1,2] |exact fk2 [0,1,5] |(simp only[go_sem,Nat.reduceBEq,Nat.reduceLeDiff,Nat.reduceLT,decide_true,Nat.reduceAdd,Nat.reduceSub,Nat.reduceMul,Int.reduceLE,Int.reduceLT,Int.reduceToNat,Int.reduceNeg,reduceCtorEq];((repeat' (first|with_reducible refine And.intro ?_ ?_|((with_reducible show _≠_);first|assumption|omega|(simp_all [aX,bu];done) |grind) |with_reducible intro _)) <;>(first|done|rfl|exact fk [0,1,2] |exact fk [0,1,5] |exact fk2 [0,1,2] |exact fk2 [0,1,5])))))))):p:=h
theorem Co {p:Prop}(h:p:=by(first|done|(repeat' (first|with_reducible refine And.intro ?_ ?_|((with_reducible show _≠_);first|assumption|omega|(simp_all [aX,bu];done) |grind) |with_reducible intro _)) <;>(first|done|with_reducible exact Empty.elim ‹Empty› |with_reducible assumption|rfl|omega|assumption|decide|exact fk [0,1,2,3] |exact czl|(simp only[*,cond_true,cond_false,Bool.not_true,Bool.not_false,go_sem,Nat.reduceBEq,Nat.reduceLeDiff,Nat.reduceLT,decide_true,Nat.reduceAdd,Nat.reduceSub,Nat.reduceMul,Int.reduceLE,Int.reduceLT,Int.reduceToNat,Int.reduceNeg,reduceCtorEq];(repeat' (first|with_reducible refine And.intro ?_ ?_|((with_reducible show _≠_);first|assumption|omega|(simp_all [aX,bu];done) |grind) |with_reducible intro _)) <;>(first|done|assumption|rfl|omega|decide|exact fk [0,1,2,3] |(simp_all [aX,bu];done))) |(simp_all [okI,aX,bu];done) |(simp_all [aX,bu];(first|done|exact fk2 [0,1,2,3])) |exact fk2 [0,1,2,3] |(simp_all only[aX,bu,cond_true,cond_false];(first|done|exact fk [0,1,2,3] |exact fk2 [0,1,2,3] |(simp only[go_sem,Nat.reduceBEq,Nat.reduceLeDiff,Nat.reduceLT,decide_true,Nat.reduceAdd,Nat.reduceSub,Nat.reduceMul,Int.reduceLE,Int.reduceLT,Int.reduceToNat,Int.reduceNeg,reduceCtorEq];((repeat' (first|with_reducible refine And.intro ?_ ?_|((with_reducible show _≠_);first|assumption|omega|(simp_all [aX,bu];done) |grind) |with_reducible intro _)) <;>(first|done|rfl|exact fk [0,1,2,3] |exact fk2 [0,1,2,3])))))))):p:=h
theorem Cp {p:Prop}(h:p:=by(first|done|(repeat' (first|with_reducible refine And.intro ?_ ?_|((with_reducible show _≠_);first|assumption|omega|(simp_all [aX,bu];done) |grind) |with_reducible intro _)) <;>(first|done|with_reducible exact Empty.elim ‹Empty› |with_reducible assumption|rfl|omega|assumption|decide|exact fk [0,1,2,3,4,7] |exact fk [0,1,2,3,4,5] |exact czl|(simp only[*,cond_true,cond_false,Bool.not_true,Bool.not_false,go_sem,Nat.reduceBEq,Nat.reduceLeDiff,Nat.reduceLT,decide_true,Nat.reduceAdd,Nat.reduceSub,Nat.reduceMul,Int.reduceLE,Int.reduceLT,Int.reduceToNat,Int.reduceNeg,reduceCtorEq];(repeat' (first|with_reducible refine And.intro ?_ ?_|((with_reducible show _≠_);first|assumption|omega|(simp_all [aX,bu];done) |grind) |with_reducible intro _)) <;>(first|done|assumption|rfl|omega|decide|exact fk [0,1,2,3,4,7] |exact fk [0,1,2,3,4,5] |(simp_all [aX,bu];done))) |(simp_all [okI,aX,bu];done) |(simp_all [aX,bu];(first|done|exact fk2 [0,1,2,3,4,7] |exact fk2 [0,1,2,3,4,5])) |exact fk2 [0,1,2,3,4,7] |exact fk2 [0,1,2,3,4,5] |(simp_all only[aX,bu,cond_true,cond_false];(first|done|exact fk [0,1,2,3,4,7] |exact fk [0,1,2,3,4,5] |exact fk2 [0,1,2,3,4,7] |exact fk2 [0,1,2,3,4,5] |(simp only[go_sem,Nat.reduceBEq,Nat.reduceLeDiff,Nat.reduceLT,decide_true,Nat.reduceAdd,Nat.reduceSub,Nat.reduceMul,Int.reduceLE,Int.reduceLT,Int.reduceToNat,Int.reduceNeg,reduceCtorEq];((repeat' (first|with_reducible refine And.intro ?_ ?_|((with_reducible show _≠_);first|assumption|omega|(simp_all [aX,bu];done) |grind) |with_reducible intro _)) <;>(first|done|rfl|exact fk [0,1,2,3,4,7] |exact fk [0,1,2,3,4,5] |exact fk2 [0,1,2,3,4,7] |exact fk2 [0,1,2,3,4,5])))))))):p:=h
theorem Cq {p:Prop}(h:p:=by simp only[go_sem,Nat.reduceBEq,Nat.reduceLeDiff,Nat.reduceLT,decide_true,Nat.reduceAdd,Nat.reduceSub,Nat.reduceMul,Int.reduceLE,Int.reduceLT,Int.reduceToNat,Int.reduceNeg,reduceCtorEq,hc,hw];all_goals exact Cn):p:=h
theorem Cr {p:Prop}(h:p:=by simp only[go_sem,Nat.reduceBEq,Nat.reduceLeDiff,Nat.reduceLT,decide_true,Nat.reduceAdd,Nat.reduceSub,Nat.reduceMul,Int.reduceLE,Int.reduceLT,Int.reduceToNat,Int.reduceNeg,reduceCtorEq,hc];all_goals exact Cn):p:=h
theorem Cs {p:Prop}(h:p:=by simp only[go_sem,Nat.reduceBEq,Nat.reduceLeDiff,Nat.reduceLT,decide_true,Nat.reduceAdd,Nat.reduceSub,Nat.reduceMul,Int.reduceLE,Int.reduceLT,Int.reduceToNat,Int.reduceNeg,reduceCtorEq,hc,hw];all_goals exact Co):p:=h
theorem Ct {p:Prop}(h:p:=by simp only[go_sem,Nat.reduceBEq,Nat.reduceLeDiff,Nat.reduceLT,decide_true,Nat.reduceAdd,Nat.reduceSub,Nat.reduceMul,Int.reduceLE,Int.reduceLT,Int.reduceToNat,Int.reduceNeg,reduceCtorEq,hc];all_goals exact Co):p:=h
theorem I6 {p:Prop}(h:p:=by simp only[go_sem,Nat.reduceBEq,Nat.reduceLeDiff,Nat.reduceLT,decide_true,Nat.reduceAdd,Nat.reduceSub,Nat.reduceMul,Int.reduceLE,Int.reduceLT,Int.reduceToNat,Int.reduceNeg,reduceCtorEq,hc,hw];all_goals exact Cp):p:=h
theorem I7 {p:Prop}(h:p:=by simp only[go_sem,Nat.reduceBEq,Nat.reduceLeDiff,Nat.reduceLT,decide_true,Nat.reduceAdd,Nat.reduceSub,Nat.reduceMul,Int.reduceLE,Int.reduceLT,Int.reduceToNat,Int.reduceNeg,reduceCtorEq,hc];all_goals exact Cp):p:=h
@[go_sem] def cD (a1:List Deed)(k_0:Nat)(s_0:List Int×List Int)(k_1:Nat)(s_1:List Int×Int):Empty⊕(List Int×Int):=.inr ((s_1.1.set (Int.toNat ((((a1.getD k_0 (default:Deed)).parts).getD k_1 (default:Part)).farm)) (IntKind.i64.wrap ((s_1.1.getD (Int.toNat ((((a1.getD k_0 (default:Deed)).parts).getD k_1 (default:Part)).farm)) (0:Int))+(dK ((((a1.getD k_0 (default:Deed)).parts).getD k_1 (default:Part)).share) (s_0.2.getD (Int.toNat ((a1.getD k_0 (default:Deed)).since)) (0:Int))).1))),(IntKind.i64.wrap (s_1.2 - (dK ((((a1.getD k_0 (default:Deed)).parts).getD k_1 (default:Part)).share) (s_0.2.getD (Int.toNat ((a1.getD k_0 (default:Deed)).since)) (0:Int))).1)))
def ia (a1:List Deed)(k_0:Nat)(s_0:List Int×List Int)(k_1:Nat)(s_1:List Int×Int):Prop:=(((a1.getD k_0 (default:Deed)).parts).length≤bv→((jm ((((a1.getD k_0 (default:Deed)).parts).getD k_1 (default:Part)).share) (s_0.2.getD (Int.toNat ((a1.getD k_0 (default:Deed)).since)) (0:Int)))∧((0≤(((a1.getD k_0 (default:Deed)).parts).getD k_1 (default:Part)).farm∧(((a1.getD k_0 (default:Deed)).parts).getD k_1 (default:Part)).farm< (s_1.1.length:Int))∧(0≤(((a1.getD k_0 (default:Deed)).parts).getD k_1 (default:Part)).farm∧(((a1.getD k_0 (default:Deed)).parts).getD k_1 (default:Part)).farm< (s_1.1.length:Int)))))
@[go_sem] def jE (a1:List Deed)(k_0:Nat)(s_1:List Int×Int)(k_2:Nat)(s_2:List Int):Empty⊕(List Int):=.inr (s_2.set (Int.toNat ((((a1.getD k_0 (default:Deed)).parts).getD k_2 (default:Part)).farm)) (IntKind.i64.wrap ((s_2.getD (Int.toNat ((((a1.getD k_0 (default:Deed)).parts).getD k_2 (default:Part)).farm)) (0:Int))+1)))
def ib (a1:List Deed)(k_0:Nat)(s_1:List Int×Int)(k_2:Nat)(s_2:List Int):Prop:=((0≤(k_2:Int)∧(k_2:Int) < (((a1.getD k_0 (default:Deed)).parts).length:Int))∧((0≤(((a1.getD k_0 (default:Deed)).parts).getD k_2 (default:Part)).farm∧(((a1.getD k_0 (default:Deed)).parts).getD k_2 (default:Part)).farm< (s_2.length:Int))∧(0≤(((a1.getD k_0 (default:Deed)).parts).getD k_2 (default:Part)).farm∧(((a1.getD k_0 (default:Deed)).parts).getD k_2 (default:Part)).farm< (s_2.length:Int))))
@[go_sem] def eJ (a1:List Deed)(a2:Int)(k_0:Nat)(s_0:List Int×List Int):Empty⊕(List Int×List Int):=(bif((a1.getD k_0 (default:Deed)).right !=a2)then .inr (s_0.1,s_0.2)else(bif((s_0.2.getD (Int.toNat ((a1.getD k_0 (default:Deed)).since)) (0:Int)) ==0)then .inr ((s_0.1++([(a1.getD k_0 (default:Deed)).no])),s_0.2)else(bif((a1.getD k_0 (default:Deed)).kind==2)then(match ak (cD a1 k_0 s_0) (((a1.getD k_0 (default:Deed)).parts).length) 0 ((bif((a1.getD k_0 (default:Deed)).kind==1)then((s_0.2.set (Int.toNat ((a1.getD k_0 (default:Deed)).since)) 0).set (Int.toNat ((a1.getD k_0 (default:Deed)).to)) (IntKind.i64.wrap (((s_0.2.set (Int.toNat ((a1.getD k_0 (default:Deed)).since)) 0).getD (Int.toNat ((a1.getD k_0 (default:Deed)).to)) (0:Int))+(s_0.2.getD (Int.toNat ((a1.getD k_0 (default:Deed)).since)) (0:Int)))))else(s_0.2.set (Int.toNat ((a1.getD k_0 (default:Deed)).since)) 0)),(s_0.2.getD (Int.toNat ((a1.getD k_0 (default:Deed)).since)) (0:Int)))with| .inl x=>x.elim| .inr s_1=>(match ak (jE a1 k_0 s_1) (Int.toNat s_1.2) 0 s_1.1 with| .inl x=>x.elim| .inr s_2=>.inr (s_0.1,s_2)))else .inr (s_0.1,(bif((a1.getD k_0 (default:Deed)).kind==1)then((s_0.2.set (Int.toNat ((a1.getD k_0 (default:Deed)).since)) 0).set (Int.toNat ((a1.getD k_0 (default:Deed)).to)) (IntKind.i64.wrap (((s_0.2.set (Int.toNat ((a1.getD k_0 (default:Deed)).since)) 0).getD (Int.toNat ((a1.getD k_0 (default:Deed)).to)) (0:Int))+(s_0.2.getD (Int.toNat ((a1.getD k_0 (default:Deed)).since)) (0:Int)))))else(s_0.2.set (Int.toNat ((a1.getD k_0 (default:Deed)).since)) 0))))))
def eF (a1:List Deed)(a2:Int)(k_0:Nat)(s_0:List Int×List Int):Prop:=(a1.length≤bv→(((a1.getD k_0 (default:Deed)).right !=a2)=false→((0≤(a1.getD k_0 (default:Deed)).since∧(a1.getD k_0 (default:Deed)).since< (s_0.2.length:Int))∧((((s_0.2.getD (Int.toNat ((a1.getD k_0 (default:Deed)).since)) (0:Int)) ==0)=true→((s_0.1++([(a1.getD k_0 (default:Deed)).no])).length*8≤gJ))∧(((s_0.2.getD (Int.toNat ((a1.getD k_0 (default:Deed)).since)) (0:Int)) ==0)=false→((0≤(a1.getD k_0 (default:Deed)).since∧(a1.getD k_0 (default:Deed)).since< (s_0.2.length:Int))∧((((a1.getD k_0 (default:Deed)).kind==1)=true→((0≤(a1.getD k_0 (default:Deed)).to∧(a1.getD k_0 (default:Deed)).to< ((s_0.2.set (Int.toNat ((a1.getD k_0 (default:Deed)).since)) 0).length:Int))∧(0≤(a1.getD k_0 (default:Deed)).to∧(a1.getD k_0 (default:Deed)).to< ((s_0.2.set (Int.toNat ((a1.getD k_0 (default:Deed)).since)) 0).length:Int))))∧(((a1.getD k_0 (default:Deed)).kind==2)=true→(okI (cD a1 k_0 s_0) (ia a1 k_0 s_0) (((a1.getD k_0 (default:Deed)).parts).length) 0 ((bif((a1.getD k_0 (default:Deed)).kind==1)then((s_0.2.set (Int.toNat ((a1.getD k_0 (default:Deed)).since)) 0).set (Int.toNat ((a1.getD k_0 (default:Deed)).to)) (IntKind.i64.wrap (((s_0.2.set (Int.toNat ((a1.getD k_0 (default:Deed)).since)) 0).getD (Int.toNat ((a1.getD k_0 (default:Deed)).to)) (0:Int))+(s_0.2.getD (Int.toNat ((a1.getD k_0 (default:Deed)).since)) (0:Int)))))else(s_0.2.set (Int.toNat ((a1.getD k_0 (default:Deed)).since)) 0)),(s_0.2.getD (Int.toNat ((a1.getD k_0 (default:Deed)).since)) (0:Int)))∧(∀ s_1,ak (cD a1 k_0 s_0) (((a1.getD k_0 (default:Deed)).parts).length) 0 ((bif((a1.getD k_0 (default:Deed)).kind==1)then((s_0.2.set (Int.toNat ((a1.getD k_0 (default:Deed)).since)) 0).set (Int.toNat ((a1.getD k_0 (default:Deed)).to)) (IntKind.i64.wrap (((s_0.2.set (Int.toNat ((a1.getD k_0 (default:Deed)).since)) 0).getD (Int.toNat ((a1.getD k_0 (default:Deed)).to)) (0:Int))+(s_0.2.getD (Int.toNat ((a1.getD k_0 (default:Deed)).since)) (0:Int)))))else(s_0.2.set (Int.toNat ((a1.getD k_0 (default:Deed)).since)) 0)),(s_0.2.getD (Int.toNat ((a1.getD k_0 (default:Deed)).since)) (0:Int)))=.inr s_1→((s_1.2<9223372036854775808)∧okI (jE a1 k_0 s_1) (ib a1 k_0 s_1) (Int.toNat s_1.2) 0 s_1.1)))))))))))
def b_ (a0:District)(a1:List Deed)(a2:Int):List Int×List Int:=(match ak (eJ a1 a2) a1.length 0 ([],((List.replicate (Int.toNat (a0.farms.length:Int)) (0:Int)).set (Int.toNat ((a0.rights.getD (Int.toNat a2) (default:Right)).farm)) (a0.rights.getD (Int.toNat a2) (default:Right)).litres))with| .inl x=>x.elim| .inr s_0=>(s_0.2,s_0.1))
def iF (a0:District)(a1:List Deed)(a2:Int):Prop:=(a0.farms.length≤bv→(((a0.farms.length:Int)=(a0.farms.length:Int)∧0≤(a0.farms.length:Int)∧(a0.farms.length:Int)*((8:Nat):Int)≤((gJ:Nat):Int))∧((a0.farms.length:Int)≤((bv:Nat):Int)→((0≤a2∧a2< (a0.rights.length:Int))∧((0≤a2∧a2< (a0.rights.length:Int))∧((0≤(a0.rights.getD (Int.toNat a2) (default:Right)).farm∧(a0.rights.getD (Int.toNat a2) (default:Right)).farm< ((List.replicate (Int.toNat (a0.farms.length:Int)) (0:Int)).length:Int))∧okI (eJ a1 a2) (eF a1 a2) a1.length 0 ([],((List.replicate (Int.toNat (a0.farms.length:Int)) (0:Int)).set (Int.toNat ((a0.rights.getD (Int.toNat a2) (default:Right)).farm)) (a0.rights.getD (Int.toNat a2) (default:Right)).litres))))))))
@[go_sem] def nH:List SV→Option Con:=(pD .district fun a0=>(pR .deed fun a1=>(pI fun a2=>(pE (.det (iF a0 a1 a2) (.tup [.nw .int ((b_ a0 a1 a2).1),.nw .int ((b_ a0 a1 a2).2)]))))))
theorem pG:FnOk Tryz.prog 54 nH:=by
 have hG:ConsOk Tryz.prog (mkG [(83,rG)] []):=ay (cgc xc cg0) cg0
 refine n_ [(.tmp 6,.int),(.tmp 7,.int)] mixed am hG (fn:=Tryz.f54) (c:=ae Tryz.f54) (by kernel_rfl) (by kernel_rfl) (by kernel_rfl) (by kernel_rfl) (bb fun a0=>(dw fun a1=>(co fun a2=>(aI (fun hp=>?_)))))
 dsimp only[aG]at hp
 unfold iF at hp
 refine⟨Nat.le_of_ble_eq_true rfl,(fun id st=>bif Nat.beq id 0 then some (LCR (ρ:=Empty) (σ:=(List Int×List Int)) 2 [.slot 9 (.row .int ([]))] [0,1,2] (fun k_0 s_0=>⟨[(1,.rs .deed a1),(2,.v (.int .i64 a2)),(8,.os 1),(9,.os 2),(10,.v (.int .i64 (k_0:Int)))],[.dead,.row .int s_0.2,.row .int s_0.1]⟩) (eJ a1 a2) (eF a1 a2) a1.length ([],((List.replicate (Int.toNat (a0.farms.length:Int)) (0:Int)).set (Int.toNat ((a0.rights.getD (Int.toNat a2) (default:Right)).farm)) (a0.rights.getD (Int.toNat a2) (default:Right)).litres)) (True) ((·.elim)) ((·.elim)) st)else none),?_,?_⟩
 ·unfold ae Tryz.f54
  simp only[al,true_and,and_true]
  ·refine c_ (a1.length≤bv) mixed am hG (by kernel_rfl) (fun _=>rfl) (a1.length:Int) rfl gM (fun hb0 k_0 s_0 hlt0 hq0 hw hc=>⟨(fun id st=>bif Nat.beq id 1000069 then some (JC (⟨[(1,.rs .deed a1),(2,.v (.int .i64 a2)),(8,.os 1),(9,.os 2),(10,.v (.int .i64 (k_0:Int))),(11,.ptr 3 0),(12,.v (.int .i64 (s_0.2.getD (Int.toNat ((a1.getD k_0 (default:Deed)).since)) (0:Int))))],[.dead,.row .int (bif((a1.getD k_0 (default:Deed)).kind==1)then((s_0.2.set (Int.toNat ((a1.getD k_0 (default:Deed)).since)) 0).set (Int.toNat ((a1.getD k_0 (default:Deed)).to)) (IntKind.i64.wrap (((s_0.2.set (Int.toNat ((a1.getD k_0 (default:Deed)).since)) 0).getD (Int.toNat ((a1.getD k_0 (default:Deed)).to)) (0:Int))+(s_0.2.getD (Int.toNat ((a1.getD k_0 (default:Deed)).since)) (0:Int)))))else(s_0.2.set (Int.toNat ((a1.getD k_0 (default:Deed)).since)) 0)),.row .int s_0.1,.cells (cellsOf .deed (a1.getD k_0 (default:Deed)))]⟩))else bif Nat.beq id 2 then some (LCR (ρ:=Empty) (σ:=(List Int×Int)) 4 [] [0,1,2,3] (fun k_1 s_1=>⟨[(1,.rs .deed a1),(2,.v (.int .i64 a2)),(8,.os 1),(9,.os 2),(10,.v (.int .i64 (k_0:Int))),(11,.ptr 3 0),(12,.v (.int .i64 (s_0.2.getD (Int.toNat ((a1.getD k_0 (default:Deed)).since)) (0:Int)))),(13,.v (.int .i64 s_1.2)),(14,.v (.int .i64 (k_1:Int)))],[.dead,.row .int s_1.1,.row .int s_0.1,.cells (cellsOf .deed (a1.getD k_0 (default:Deed)))]⟩) (cD a1 k_0 s_0) (ia a1 k_0 s_0) (((a1.getD k_0 (default:Deed)).parts).length) ((bif((a1.getD k_0 (default:Deed)).kind==1)then((s_0.2.set (Int.toNat ((a1.getD k_0 (default:Deed)).since)) 0).set (Int.toNat ((a1.getD k_0 (default:Deed)).to)) (IntKind.i64.wrap (((s_0.2.set (Int.toNat ((a1.getD k_0 (default:Deed)).since)) 0).getD (Int.toNat ((a1.getD k_0 (default:Deed)).to)) (0:Int))+(s_0.2.getD (Int.toNat ((a1.getD k_0 (default:Deed)).since)) (0:Int)))))else(s_0.2.set (Int.toNat ((a1.getD k_0 (default:Deed)).since)) 0)),(s_0.2.getD (Int.toNat ((a1.getD k_0 (default:Deed)).since)) (0:Int))) (True) ((·.elim)) ((·.elim)) st)else bif Nat.beq id 4 then some (LCR (ρ:=Empty) (σ:=(List Int)) 4 [] [0,1,2,3] (fun k_2 s_2=>⟨[(1,.rs .deed a1),(2,.v (.int .i64 a2)),(8,.os 1),(9,.os 2),(10,.v (.int .i64 (k_0:Int))),(11,.ptr 3 0),(13,.v (.int .i64 (aX (ak (cD a1 k_0 s_0) (((a1.getD k_0 (default:Deed)).parts).length) 0 ((bif((a1.getD k_0 (default:Deed)).kind==1)then((s_0.2.set (Int.toNat ((a1.getD k_0 (default:Deed)).since)) 0).set (Int.toNat ((a1.getD k_0 (default:Deed)).to)) (IntKind.i64.wrap (((s_0.2.set (Int.toNat ((a1.getD k_0 (default:Deed)).since)) 0).getD (Int.toNat ((a1.getD k_0 (default:Deed)).to)) (0:Int))+(s_0.2.getD (Int.toNat ((a1.getD k_0 (default:Deed)).since)) (0:Int)))))else(s_0.2.set (Int.toNat ((a1.getD k_0 (default:Deed)).since)) 0)),(s_0.2.getD (Int.toNat ((a1.getD k_0 (default:Deed)).since)) (0:Int))))).2)),(18,.v (.int .i64 (k_2:Int)))],[.dead,.row .int s_2,.row .int s_0.1,.cells (cellsOf .deed (a1.getD k_0 (default:Deed)))]⟩) (jE a1 k_0 (aX (ak (cD a1 k_0 s_0) (((a1.getD k_0 (default:Deed)).parts).length) 0 ((bif((a1.getD k_0 (default:Deed)).kind==1)then((s_0.2.set (Int.toNat ((a1.getD k_0 (default:Deed)).since)) 0).set (Int.toNat ((a1.getD k_0 (default:Deed)).to)) (IntKind.i64.wrap (((s_0.2.set (Int.toNat ((a1.getD k_0 (default:Deed)).since)) 0).getD (Int.toNat ((a1.getD k_0 (default:Deed)).to)) (0:Int))+(s_0.2.getD (Int.toNat ((a1.getD k_0 (default:Deed)).since)) (0:Int)))))else(s_0.2.set (Int.toNat ((a1.getD k_0 (default:Deed)).since)) 0)),(s_0.2.getD (Int.toNat ((a1.getD k_0 (default:Deed)).since)) (0:Int)))))) (ib a1 k_0 (aX (ak (cD a1 k_0 s_0) (((a1.getD k_0 (default:Deed)).parts).length) 0 ((bif((a1.getD k_0 (default:Deed)).kind==1)then((s_0.2.set (Int.toNat ((a1.getD k_0 (default:Deed)).since)) 0).set (Int.toNat ((a1.getD k_0 (default:Deed)).to)) (IntKind.i64.wrap (((s_0.2.set (Int.toNat ((a1.getD k_0 (default:Deed)).since)) 0).getD (Int.toNat ((a1.getD k_0 (default:Deed)).to)) (0:Int))+(s_0.2.getD (Int.toNat ((a1.getD k_0 (default:Deed)).since)) (0:Int)))))else(s_0.2.set (Int.toNat ((a1.getD k_0 (default:Deed)).since)) 0)),(s_0.2.getD (Int.toNat ((a1.getD k_0 (default:Deed)).since)) (0:Int)))))) (Int.toNat (aX (ak (cD a1 k_0 s_0) (((a1.getD k_0 (default:Deed)).parts).length) 0 ((bif((a1.getD k_0 (default:Deed)).kind==1)then((s_0.2.set (Int.toNat ((a1.getD k_0 (default:Deed)).since)) 0).set (Int.toNat ((a1.getD k_0 (default:Deed)).to)) (IntKind.i64.wrap (((s_0.2.set (Int.toNat ((a1.getD k_0 (default:Deed)).since)) 0).getD (Int.toNat ((a1.getD k_0 (default:Deed)).to)) (0:Int))+(s_0.2.getD (Int.toNat ((a1.getD k_0 (default:Deed)).since)) (0:Int)))))else(s_0.2.set (Int.toNat ((a1.getD k_0 (default:Deed)).since)) 0)),(s_0.2.getD (Int.toNat ((a1.getD k_0 (default:Deed)).since)) (0:Int))))).2) ((aX (ak (cD a1 k_0 s_0) (((a1.getD k_0 (default:Deed)).parts).length) 0 ((bif((a1.getD k_0 (default:Deed)).kind==1)then((s_0.2.set (Int.toNat ((a1.getD k_0 (default:Deed)).since)) 0).set (Int.toNat ((a1.getD k_0 (default:Deed)).to)) (IntKind.i64.wrap (((s_0.2.set (Int.toNat ((a1.getD k_0 (default:Deed)).since)) 0).getD (Int.toNat ((a1.getD k_0 (default:Deed)).to)) (0:Int))+(s_0.2.getD (Int.toNat ((a1.getD k_0 (default:Deed)).since)) (0:Int)))))else(s_0.2.set (Int.toNat ((a1.getD k_0 (default:Deed)).since)) 0)),(s_0.2.getD (Int.toNat ((a1.getD k_0 (default:Deed)).since)) (0:Int))))).1) ((aX (ak (cD a1 k_0 s_0) (((a1.getD k_0 (default:Deed)).parts).length) 0 ((bif((a1.getD k_0 (default:Deed)).kind==1)then((s_0.2.set (Int.toNat ((a1.getD k_0 (default:Deed)).since)) 0).set (Int.toNat ((a1.getD k_0 (default:Deed)).to)) (IntKind.i64.wrap (((s_0.2.set (Int.toNat ((a1.getD k_0 (default:Deed)).since)) 0).getD (Int.toNat ((a1.getD k_0 (default:Deed)).to)) (0:Int))+(s_0.2.getD (Int.toNat ((a1.getD k_0 (default:Deed)).since)) (0:Int)))))else(s_0.2.set (Int.toNat ((a1.getD k_0 (default:Deed)).since)) 0)),(s_0.2.getD (Int.toNat ((a1.getD k_0 (default:Deed)).since)) (0:Int))))).2<9223372036854775808) ((·.elim)) ((·.elim)) st)else none),?_,?_⟩) (fun hb0 s_0 hc=>?_) fun hb0 k_0 s_0=>?_
   ·simp only[al,true_and,and_true]
    refine⟨?_,?_⟩
    ·refine c_ (((a1.getD k_0 (default:Deed)).parts).length≤bv) mixed am hG (by kernel_rfl) (fun _=>rfl) (((a1.getD k_0 (default:Deed)).parts).length:Int) rfl gM (fun hb1 k_1 s_1 hlt1 hq1 hw hc=>⟨L0,ah _,?_⟩) (fun hb1 s_1 hc=>?_) fun hb1 k_1 s_1=>?_
     ·unfold ia at hq1
      try simp only[hw,Int.toNat_natCast]at hq1
      exact Cs
     ·exact Ct
     ·simp only[go_sem,Nat.reduceBEq,Nat.reduceLeDiff,Nat.reduceLT,decide_true,Nat.reduceAdd,Nat.reduceSub,Nat.reduceMul,Int.reduceLE,Int.reduceLT,Int.reduceToNat,Int.reduceNeg,reduceCtorEq,hb1]
    ·refine eh mixed am hG (by kernel_rfl) (fun _=>rfl) ((aX (ak (cD a1 k_0 s_0) (((a1.getD k_0 (default:Deed)).parts).length) 0 ((bif((a1.getD k_0 (default:Deed)).kind==1)then((s_0.2.set (Int.toNat ((a1.getD k_0 (default:Deed)).since)) 0).set (Int.toNat ((a1.getD k_0 (default:Deed)).to)) (IntKind.i64.wrap (((s_0.2.set (Int.toNat ((a1.getD k_0 (default:Deed)).since)) 0).getD (Int.toNat ((a1.getD k_0 (default:Deed)).to)) (0:Int))+(s_0.2.getD (Int.toNat ((a1.getD k_0 (default:Deed)).since)) (0:Int)))))else(s_0.2.set (Int.toNat ((a1.getD k_0 (default:Deed)).since)) 0)),(s_0.2.getD (Int.toNat ((a1.getD k_0 (default:Deed)).since)) (0:Int))))).2) rfl id (fun hb2 k_2 s_2 hlt2 hq2 hw hc=>⟨L0,ah _,?_⟩) (fun hb2 s_2 hc=>?_)
     ·unfold ib at hq2
      try simp only[hw,Int.toNat_natCast]at hq2
      exact Cs
     ·exact Ct
   ·unfold eF at hq0
    try simp only[hw,Int.toNat_natCast]at hq0
    exact Cq
   ·exact Cr
   ·simp only[go_sem,Nat.reduceBEq,Nat.reduceLeDiff,Nat.reduceLT,decide_true,Nat.reduceAdd,Nat.reduceSub,Nat.reduceMul,Int.reduceLE,Int.reduceLT,Int.reduceToNat,Int.reduceNeg,reduceCtorEq,hb0]
 ·unfold ae Tryz.f54
  try unfold b_
  simp only[go_sem,Nat.reduceBEq,Nat.reduceLeDiff,Nat.reduceLT,decide_true,Nat.reduceAdd,Nat.reduceSub,Nat.reduceMul,Int.reduceLE,Int.reduceLT,Int.reduceToNat,Int.reduceNeg,reduceCtorEq]
  all_goals exact cl
@[go_sem] def jY (a0:District)(a1:List Deed)(a2:Int)(a3:Int)(k_0:Nat)(k_1:Nat)(s_1:List Holding):Empty⊕(List Holding):=(bif(decide ((((b_ a0 (aW a1 a2 a3) (k_0:Int)).1).getD k_1 (0:Int)) > 0))then .inr (s_1++([({ right:=(k_0:Int),farm:=(k_1:Int),litres:=(((b_ a0 (aW a1 a2 a3) (k_0:Int)).1).getD k_1 (0:Int)),rank:=(a0.rights.getD k_0 (default:Right)).rank}:Holding)]))else .inr s_1)
def jt (a0:District)(a1:List Deed)(a2:Int)(a3:Int)(k_0:Nat)(k_1:Nat)(s_1:List Holding):Prop:=(((b_ a0 (aW a1 a2 a3) (k_0:Int)).1).length≤bv→((decide ((((b_ a0 (aW a1 a2 a3) (k_0:Int)).1).getD k_1 (0:Int)) > 0))=true→((s_1++([({ right:=(k_0:Int),farm:=(k_1:Int),litres:=(((b_ a0 (aW a1 a2 a3) (k_0:Int)).1).getD k_1 (0:Int)),rank:=(a0.rights.getD k_0 (default:Right)).rank}:Holding)])).length*32≤gJ)))
@[go_sem] def jZ (a0:District)(a1:List Deed)(a2:Int)(a3:Int)(k_0:Nat)(s_0:List Holding):Empty⊕(List Holding):=(bif((a0.rights.getD k_0 (default:Right)).kind !=1)then .inr s_0 else(match ak (jY a0 a1 a2 a3 k_0) (((b_ a0 (aW a1 a2 a3) (k_0:Int)).1).length) 0 s_0 with| .inl x=>x.elim| .inr s_1=>.inr s_1))
def ju (a0:District)(a1:List Deed)(a2:Int)(a3:Int)(k_0:Nat)(s_0:List Holding):Prop:=(a0.rights.length≤bv→(((a0.rights.getD k_0 (default:Right)).kind !=1)=false→((iF a0 (aW a1 a2 a3) (k_0:Int))∧okI (jY a0 a1 a2 a3 k_0) (jt a0 a1 a2 a3 k_0) (((b_ a0 (aW a1 a2 a3) (k_0:Int)).1).length) 0 s_0)))
def jv (a0:District)(a1:List Deed)(a2:Int)(a3:Int):List Holding×Int:=(bif((eW a0 a1) !=0)then([],(eW a0 a1))else(bif((((decide (a2<0)) ||(decide (a2≥a0.hours))) ||(decide (a3<0))) ||(decide (a3 > 1048576)))then([],1)else(match ak (jZ a0 a1 a2 a3) a0.rights.length 0 ([])with| .inl x=>x.elim| .inr s_0=>(s_0,0))))
def nI (a0:District)(a1:List Deed)(a2:Int)(a3:Int):Prop:=((jq a0 a1)∧(((eW a0 a1) !=0)=false→(((((decide (a2<0)) ||(decide (a2≥a0.hours))) ||(decide (a3<0))) ||(decide (a3 > 1048576)))=false→((fa a1 a2 a3)∧okI (jZ a0 a1 a2 a3) (ju a0 a1 a2 a3) a0.rights.length 0 ([])))))
@[go_sem] def xN:List SV→Option Con:=(pD .district fun a0=>(pR .deed fun a1=>(pI fun a2=>(pI fun a3=>(pE (.det (nI a0 a1 a2 a3) (.tup [.nw .holding ((jv a0 a1 a2 a3).1),.v (.int .i64 ((jv a0 a1 a2 a3).2))])))))))
theorem Cu:FnOk Tryz.prog 19 xN:=by
 have hG:ConsOk Tryz.prog (mkG [(16,fun l=>od (cT [.st .district,.sl .deed] l)),(53,fun l=>ll (cT [.sl .deed,.o,.o] l)),(54,fun l=>nH (cT [.st .district,.sl .deed,.o] l))] []):=ay (cgc (qB.norm [.st .district,.sl .deed]) (cgc (nY.norm [.sl .deed,.o,.o]) (cgc (pG.norm [.st .district,.sl .deed,.o]) cg0))) cg0
 refine n_ [(.tmp 8,.holding)] mixed am hG (fn:=Tryz.f19) (c:=ae Tryz.f19) (by kernel_rfl) (by kernel_rfl) (by kernel_rfl) (by kernel_rfl) (bb fun a0=>(dw fun a1=>(co fun a2=>(co fun a3=>(aI (fun hp=>?_))))))
 dsimp only[aG]at hp
 unfold nI at hp
 refine⟨Nat.le_of_ble_eq_true rfl,(fun id st=>bif Nat.beq id 0 then some (LCR (ρ:=Empty) (σ:=(List Holding)) 2 [.slot 12 (.row .holding ([]))] [0,1,2] (fun k_0 s_0=>⟨[(4,.ptr 0 0),(11,.os 1),(12,.os 2),(13,.v (.int .i64 (k_0:Int)))],[.cells (cellsOf .district a0),.row .deed (aW a1 a2 a3),.row .holding s_0]⟩) (jZ a0 a1 a2 a3) (ju a0 a1 a2 a3) a0.rights.length ([]) (True) ((·.elim)) ((·.elim)) st)else none),?_,?_⟩
 ·unfold ae Tryz.f19
  simp only[al,true_and,and_true]
  ·refine c_ (a0.rights.length≤bv) mixed am hG (by kernel_rfl) (fun _=>rfl) (a0.rights.length:Int) rfl gM (fun hb0 k_0 s_0 hlt0 hq0 hw hc=>⟨(fun id st=>bif Nat.beq id 2 then some (LCR (ρ:=Empty) (σ:=(List Holding)) 5 [] [0,1,2,3,4,2] (fun k_1 s_1=>⟨[(4,.ptr 0 0),(11,.os 1),(12,.os 5),(13,.v (.int .i64 (k_0:Int))),(14,.os 3),(16,.v (.int .i64 (k_1:Int)))],[.cells (cellsOf .district a0),.row .deed (aW a1 a2 a3),.dead,.row .int ((b_ a0 (aW a1 a2 a3) (k_0:Int)).1),.dead,.row .holding s_1]⟩) (jY a0 a1 a2 a3 k_0) (jt a0 a1 a2 a3 k_0) (((b_ a0 (aW a1 a2 a3) (k_0:Int)).1).length) s_0 (True) ((·.elim)) ((·.elim)) st)else none),?_,?_⟩) (fun hb0 s_0 hc=>?_) fun hb0 k_0 s_0=>?_
   ·simp only[al,true_and,and_true]
    ·refine c_ (((b_ a0 (aW a1 a2 a3) (k_0:Int)).1).length≤bv) mixed am hG (by kernel_rfl) (fun _=>rfl) (((b_ a0 (aW a1 a2 a3) (k_0:Int)).1).length:Int) rfl gM (fun hb1 k_1 s_1 hlt1 hq1 hw hc=>⟨L0,ah _,?_⟩) (fun hb1 s_1 hc=>?_) fun hb1 k_1 s_1=>?_
     ·unfold jt at hq1
      try simp only[hw,Int.toNat_natCast]at hq1
      exact I6
     ·exact I7
     ·simp only[go_sem,Nat.reduceBEq,Nat.reduceLeDiff,Nat.reduceLT,decide_true,Nat.reduceAdd,Nat.reduceSub,Nat.reduceMul,Int.reduceLE,Int.reduceLT,Int.reduceToNat,Int.reduceNeg,reduceCtorEq,hb1]
   ·unfold ju at hq0
    try simp only[hw,Int.toNat_natCast]at hq0
    exact Cq
   ·exact Cr
   ·simp only[go_sem,Nat.reduceBEq,Nat.reduceLeDiff,Nat.reduceLT,decide_true,Nat.reduceAdd,Nat.reduceSub,Nat.reduceMul,Int.reduceLE,Int.reduceLT,Int.reduceToNat,Int.reduceNeg,reduceCtorEq,hb0]
 ·unfold ae Tryz.f19
  try unfold jv
  simp only[go_sem,Nat.reduceBEq,Nat.reduceLeDiff,Nat.reduceLT,decide_true,Nat.reduceAdd,Nat.reduceSub,Nat.reduceMul,Int.reduceLE,Int.reduceLT,Int.reduceToNat,Int.reduceNeg,reduceCtorEq]
  all_goals exact cl
end Go.Sx
end
section
namespace Go.Sx
open Go.Proofs
theorem Cv {α:Type}{step:Nat→List α→Empty⊕List α}(l:List α)(d:α)(P:α→Bool)(s0:List α)(h:∀ k s,k<l.length→step k s=bif P (l.getD k d)then .inr (s++[l.getD k d])else .inr s):ak step l.length 0 s0=.inr (s0++l.filter P):=by
 obtain⟨r,h1,h2⟩:=iO (step:=step) (fun k s=>s=s0++(l.take k).filter P) l.length 0 s0 (by simp) (fun j s _ hj hs=>by
  rw[Nat.zero_add]at hj
  rw[h j s hj,bH l d hj,List.filter_append,hs]
  cases hp:P (l.getD j d)with
  |true=>exact⟨_,rfl,by rw[List.filter_cons_of_pos hp];simp⟩
  |false=>exact⟨_,rfl,by rw[List.filter_cons_of_neg (by rw[hp];simp)];simp⟩)
 rw[h1,h2,Nat.zero_add,List.take_length]
theorem Cw {α:Type}{step:Nat→List α→Empty⊕List α}{p:Nat→List α→Prop}(l:List α)(d:α)(P:α→Bool)(s0:List α)(h:∀ k s,k<l.length→step k s=bif P (l.getD k d)then .inr (s++[l.getD k d])else .inr s)(hp:∀ k s,k<l.length→s.length≤s0.length+k→p k s):okI step p l.length 0 s0:=by
 refine kf (fun k s=>s.length≤s0.length+k) _ _ _ (Nat.le_refl _) fun j s _ hj hs=>⟨hp j s (by omega) hs,fun s' e=>?_⟩
 rw[h j s (by omega)]at e
 cases hc:P (l.getD j d)with
 |true=>rw[hc]at e;cases e;simp;omega
 |false=>rw[hc]at e;cases e;omega
theorem OG (l:List Deed)(x:Deed)(known:Int):lj l x known=iA l known x.no:=by
 unfold lj
 cases hr:ak (gY l x known) l.length 0 ()with
 |inr s=>
  have h:=dF.1 hr
  symm
  rw[←Bool.not_eq_true,xM]
  rintro⟨u,hu,a,b,c⟩
  obtain⟨j,hj,rfl⟩:=List.mem_iff_getElem.1 hu
  have:=h j hj
  unfold gY at this
  rw[eD l _ hj,a,c,decide_eq_true b]at this
  simp at this
 |inl y=>
  cases hc:iA l known x.no with
  |true=>rfl
  |false=>
   have:ak (gY l x known) l.length 0 ()=.inr ():=dF.2 fun j hj=>by
    unfold gY
    have h2:¬ ((l.getD j default).kind=4∧(l.getD j default).of_=x.no∧(l.getD j default).known≤known):=fun⟨a,b,c⟩ =>by
     have:iA l known x.no=true:=xM.2 ⟨l.getD j default,by rw[eD l _ hj];exact List.getElem_mem _,a,c,b⟩
     rw[hc]at this;cases this
    have h3:((((l.getD j (default:Deed)).kind==4)&&((l.getD j (default:Deed)).of_==x.no))&&(decide ((l.getD j (default:Deed)).known≤known)))=false:=by
     rw[←Bool.not_eq_true,Bool.and_eq_true,Bool.and_eq_true,beq_iff_eq,beq_iff_eq,decide_eq_true_eq]
     exact fun h=>h2 ⟨h.1.1,h.1.2,h.2⟩
    rw[h3];rfl
   rw[this]at hr;cases hr
def qv (l:List Deed)(known:Int)(x:Deed):Bool:=(x.kind !=4)&&(decide (x.known≤known))&& !iA l known x.no
theorem SK (l:List Deed)(hour known:Int)(x:Deed):lv l hour known x=(qv l known x&&decide (x.at_≤hour)):=by
 unfold lv qv
 have e1:decide (x.known > known)= !decide (x.known≤known):=by by_cases h:x.known≤known <;>simp[h];omega
 have e2:decide (x.at_ > hour)= !decide (x.at_≤hour):=by by_cases h:x.at_≤hour <;>simp[h];omega
 rw[e1,e2]
 show(!(((x.kind==4) || !decide (x.known≤known)) || !decide (x.at_≤hour) ||iA l known x.no))=(((!(x.kind==4))&&decide (x.known≤known))&& !iA l known x.no&&decide (x.at_≤hour))
 cases x.kind==4 <;>cases decide (x.known≤known) <;>cases decide (x.at_≤hour) <;>cases iA l known x.no <;>rfl
theorem xO {d:District}{l:List Deed}(hD:Deeds d l)(hour known:Int):fa l hour known∧aW l hour known=stS (ph l hour known):=by
 have hl:=hD.len
 have stp:∀ (s:List Deed×Int) k (t:List Deed),k<l.length→eE l known s k t=bif((l.getD k default).at_==s.2)&&qv l known (l.getD k default)then .inr (t++[l.getD k default])else .inr t:=fun s k t hk=>by
  unfold eE qv
  rw[OG]
  simp only[Bool.and_assoc]
 obtain⟨k1,r,k2,k3,k4⟩:okI (dX l hour known) (eP l hour known) (Int.toNat hour+2) 0 ([],0)∧∃ r,ak (dX l hour known) (Int.toNat hour+2) 0 ([],0)=.inl r∧SameF (ph l hour known) r∧Srt r:=by
  refine vB (fun s:List Deed×Int=>((Int.toNat hour+1:Nat):Int).toNat - s.2.toNat) (fun s:List Deed×Int=>∃ k:Nat,s.2=(k:Int)∧k≤4097∧(k=0∨(k:Int)≤hour+1)∧Srt s.1∧(∀ x∈s.1,x.at_< (k:Int))∧SameF (l.filter fun x=>qv l known x&&decide (x.at_< (k:Int))) s.1∧s.1.length≤512) _ ?_ _ _ _ ⟨0,rfl,by omega,.inl rfl,List.Pairwise.nil,by simp,?_,by simp⟩ (by simp only;omega)
  ·rintro j ⟨o,a⟩ ⟨k,rfl,h1,h1b,h2,h3,h4,h5⟩
   unfold eP dX
   by_cases hc:(k:Int)≤4096∧(k:Int)≤hour
   ·have e:((decide ((k:Int)≤4096))&&(decide ((k:Int)≤hour)))=true:=by rw[Bool.and_eq_true,decide_eq_true_eq,decide_eq_true_eq];exact hc
    simp only[e]
    have er:=Cv (step:=eE l known (o,(k:Int))) l default (fun x=>(x.at_==(k:Int))&&qv l known x) o (stp _)
    rw[er]
    simp only[cond_true]
    have hsame:SameF (l.filter fun x=>qv l known x&&decide (x.at_< ((k+1:Nat):Int))) (o++l.filter fun x=>(x.at_==(k:Int))&&qv l known x):=fun t=>by
     rw[List.filter_append,←h4 t,List.filter_filter,List.filter_filter,List.filter_filter]
     by_cases ht:t< (k:Int)
     ·have e2:l.filter (fun a=>(a.at_==t)&&((a.at_==(k:Int))&&qv l known a))=[]:=by
       rw[List.filter_eq_nil_iff];intro a _;simp;intro e1 e2;omega
      rw[e2,List.append_nil]
      refine List.filter_congr fun a _=>?_
      by_cases h:a.at_=t
      ·rw[decide_eq_true (by omega:a.at_< ((k+1:Nat):Int)),decide_eq_true (by omega:a.at_< (k:Int))]
      ·rw[show(a.at_==t)=false by simpa using h];simp
     ·have e2:l.filter (fun a=>(a.at_==t)&&(qv l known a&&decide (a.at_< (k:Int))))=[]:=by
       rw[List.filter_eq_nil_iff];intro a _;simp;intro e1 e2;omega
      rw[e2,List.nil_append]
      refine List.filter_congr fun a _=>?_
      by_cases h:a.at_=t
      ·by_cases h6:t=(k:Int)
       ·rw[decide_eq_true (by omega:a.at_< ((k+1:Nat):Int)),show(a.at_==(k:Int))=true by simp;omega,Bool.and_true,Bool.true_and]
       ·rw[decide_eq_false (by omega:¬a.at_< ((k+1:Nat):Int)),show(a.at_==(k:Int))=false by simp;omega];simp
      ·rw[show(a.at_==t)=false by simpa using h];simp
    have hlen2:(o++l.filter fun x=>(x.at_==(k:Int))&&qv l known x).length≤512:=by
     rw[←oR hsame];exact Nat.le_trans (List.length_filter_le _ _) hl
    have hf2:=List.length_filter_le (fun x=>(x.at_==(k:Int))&&qv l known x) l
    refine⟨fun _=>Cw l default (fun x=>(x.at_==(k:Int))&&qv l known x) o (stp _) fun i s hi hs=>fun _ _=>by rw[vN];unfold gJ;simp only at hs h5;omega,.inr ⟨_,rfl,?_,k+1,?_,by omega,.inr (by omega),?_,?_,hsame,hlen2⟩⟩
    ·simp only
     rw[aT (by omega) (by omega)];omega
    ·simp only
     rw[aT (by omega) (by omega)];omega
    ·refine uC h2 (List.pairwise_of_forall_mem_list fun x hx y hy=>?_) fun x hx y hy=>?_
     ·have:=(List.mem_filter.1 hx).2;have:=(List.mem_filter.1 hy).2;simp at *;omega
     ·have:=h3 x hx;have:=(List.mem_filter.1 hy).2;simp at this;omega
    ·intro x hx
     rcases List.mem_append.1 hx with hx|hx
     ·have:=h3 x hx;omega
     ·have:=(List.mem_filter.1 hx).2;simp at this;omega
   ·have e:((decide ((k:Int)≤4096))&&(decide ((k:Int)≤hour)))=false:=by rw[←Bool.not_eq_true,Bool.and_eq_true,decide_eq_true_eq,decide_eq_true_eq];exact hc
    simp only[e,cond_false]
    refine⟨(fun h=>by cases h),.inl ⟨_,rfl,?_,h2⟩⟩
    have:ph l hour known=l.filter fun x=>qv l known x&&decide (x.at_< (k:Int)):=by
     show l.filter (lv l hour known)=_
     refine List.filter_congr fun x hx=>?_
     rw[SK]
     have:=(hD.fit x hx).at0
     have:=(hD.fit x hx).at1
     congr 1
     rw[decide_eq_decide]
     omega
    rw[this];exact h4
  ·intro t
   rw[List.filter_filter]
   show l.filter _=[]
   rw[List.filter_eq_nil_iff]
   intro a ha
   have:=(hD.fit a ha).at0
   simp
   intro _ _
   omega
 unfold fa aW
 rw[k2]
 exact⟨⟨k1,fun z h=>by cases h⟩,sp k3 k4⟩
def RowL (F:Nat)(s:List Int)(g:Int→Int):Prop:=s.length=F∧∀ f:Nat,f<F→s.getD f 0=g (f:Int)
theorem RowL.set {F:Nat}{s:List Int}{g:Int→Int}(h:RowL F s g){f v:Int}(h0:0≤f)(h1:f< (F:Int)):RowL F (s.set f.toNat v) (fI g f v):=by
 refine⟨by rw[List.length_set];exact h.1,fun i hi=>?_⟩
 have hl:=h.1
 unfold fI
 by_cases e:i=f.toNat
 ·subst e
  rw[if_pos (by omega),List.getD_eq_getElem?_getD,List.getElem?_set_self (by omega)];rfl
 ·rw[if_neg (by omega),List.getD_eq_getElem?_getD,List.getElem?_set_ne (fun h=>e h.symm),←List.getD_eq_getElem?_getD,h.2 i hi]
theorem RowL.get {F:Nat}{s:List Int}{g:Int→Int}(h:RowL F s g){f:Int}(h0:0≤f)(h1:f< (F:Int)):s.getD f.toNat 0=g f:=by
 rw[h.2 f.toNat (by omega),Int.toNat_of_nonneg h0]
def mu (r:Int):List Deed→(Int→Int→Int)→List Int
 | [],_=>[]
 |x::ds,B=>(if x.right=r∧B x.right x.since=0 then [x.no]else [])++mu r ds (h_ x B)
theorem zo (ds:List Deed)(B:Int→Int→Int){j:Nat}(hj:j<ds.length):j5 (ds.take (j+1)) B=h_ (ds.getD j default) (j5 (ds.take j) B):=by
 rw[bH ds default hj]
 unfold j5
 rw[List.foldl_append];rfl
theorem I8 {d:District}{ds:List Deed}{j:Nat}{r:Nat}{x:Deed}(ex:ds.getD j default=x)(hx:Fit d x)(hk:x.kind≠4){L:Int}(hL:L≤1073741824){e s:List Int}{g:Int→Int}(hg:Good d.farms.length L g)(hs:RowL d.farms.length s g)(he:(e.length+1)*8≤gJ):
  eF ds r j (e,s)∧∃ s',eJ ds r j (e,s)=.inr (e++(if x.right=(r:Int)∧g x.since=0 then [x.no]else []),s')∧RowL d.farms.length s' (if x.right=(r:Int)then sq x g else g):=by
 obtain⟨_,_,_,s0,s1⟩:=hx.held hk
 have hsl:=hs.1
 have gs:=hs.get s0 s1
 unfold eF eJ ia cD ib jE
 rw[ex]
 by_cases hr:x.right=(r:Int)
 ·have b0:(x.right !=(r:Int))=false:=by simpa using hr
  simp only[hr,bne_self_eq_false,cond_false,true_and,if_true]
  simp only[gs]
  have hlen:(e++[x.no]).length=e.length+1:=by simp
  by_cases hn:g x.since=0
  ·have b1:(g x.since==0)=true:=by rw[hn];rfl
   rw[b1,if_pos hn]
   simp only[cond_true]
   refine⟨fun _ _=>⟨by omega,fun _=>by rw[hlen];exact he,(fun h=>by cases h)⟩,s,rfl,?_⟩
   unfold sq;rw[if_pos hn];exact hs
  ·have b1:(g x.since==0)=false:=by simpa using hn
   rw[b1,if_neg hn]
   simp only[cond_false,List.append_nil]
   have hnn:=hg.nn x.since
   have hle:=hg.le30 (by omega) x.since
   have r1:=hs.set (v:=0) s0 s1
   have g1:Good d.farms.length (L - g x.since) (fI g x.since 0):=hg.put s0 s1 (Int.le_refl _) (by have:=hg.tot;omega)
   have hgl:g x.since≤L:=Int.le_trans (xC hg.nn _ _ s0 s1) hg.tot
   have hl1:(s.set x.since.toNat 0).length=d.farms.length:=r1.1
   by_cases k1:x.kind=1
   ·have c1:(x.kind==1)=true:=by rw[k1];rfl
    have c2:(x.kind==2)=false:=by rw[k1];rfl
    obtain⟨a,b,c⟩:=hx.pass k1
    simp only[c1,c2,cond_true,cond_false,hl1]
    have gt:=r1.get a b
    have hto:=g1.le30 (by omega) x.to
    rw[gt,aT (n:=fI g x.since 0 x.to+g x.since) (by omega) (by omega)]
    refine⟨fun _ _=>⟨by omega,(fun h=>by cases h),fun _=>⟨by omega,fun _=>⟨by omega,by omega⟩,(fun h=>by cases h)⟩⟩,_,rfl,?_⟩
    unfold sq
    rw[if_neg hn,if_pos k1]
    exact r1.set a b
   ·have c1:(x.kind==1)=false:=by simpa using k1
    by_cases k2:x.kind=2
    ·have c2:(x.kind==2)=true:=by rw[k2];rfl
     simp only[c1,c2,cond_true,cond_false]
     have hx2:=hx.split k2
     have h0:=hnn
     obtain⟨l1,l2⟩:=AA hx2 (g x.since)
     generalize hn':g x.since=n at *
     generalize hG:fI g x.since 0=g0 at *
     generalize hS:s.set x.since.toNat 0=q0 at *
     have loop1:∀ (i:Nat) (t:List Int×Int),i<x.parts.length→RowL d.farms.length t.1 (mG (x.parts.take i) n g0)→t.2=n - cd (x.parts.take i) n→
       ((jm (x.parts.getD i default).share n)∧((0≤(x.parts.getD i default).farm∧(x.parts.getD i default).farm< (t.1.length:Int))∧(0≤(x.parts.getD i default).farm∧(x.parts.getD i default).farm< (t.1.length:Int))))∧
       RowL d.farms.length (t.1.set (x.parts.getD i default).farm.toNat (IntKind.i64.wrap ((t.1.getD (x.parts.getD i default).farm.toNat 0)+(dK (x.parts.getD i default).share n).1))) (mG (x.parts.take (i+1)) n g0)∧IntKind.i64.wrap (t.2 - (dK (x.parts.getD i default).share n).1)=n - cd (x.parts.take (i+1)) n:=fun i t hi q1 q2=>by
      have hm:x.parts.getD i default∈x.parts:=by rw[eD _ _ hi];exact List.getElem_mem _
      obtain⟨f0,f1,f2,f3⟩:=hx2.fit _ hm
      obtain⟨tp,tv⟩:=DX f2 h0 (by omega:n≤1073741824)
      have elo:(dK (x.parts.getD i default).share n).1=loP (x.parts.getD i default) n:=tv
      have hlo:=Cf f2 f3 h0
      obtain⟨w1,w2⟩:=na h0 (x.parts.take i) _ _ (hx2.fit.take _) g1
      have key:∀ l:List Part,PFit d.farms.length l→0≤cd l n:=fun l=>by
       induction l with
       |nil=>intro _;simp[cd]
       |cons p r ih=>
        intro hp
        obtain⟨_,_,c,e⟩:=hp p List.mem_cons_self
        have:=Cf c e h0
        have:=ih fun q hq=>hp q (List.mem_cons_of_mem _ hq)
        have e:cd (p::r) n=loP p n+cd r n:=by simp[cd]
        omega
      have LB:∀ k,0≤cd (x.parts.take k) n∧cd (x.parts.take k) n≤cd x.parts n:=fun k=>by
       have h1:=key _ (hx2.fit.take k)
       have h2:=key (x.parts.drop k) fun p hp=>hx2.fit p (List.mem_of_mem_drop hp)
       have h3:cd x.parts n=cd (x.parts.take k) n+cd (x.parts.drop k) n:=by
        conv=>lhs;rw[←List.take_append_drop k x.parts]
        unfold cd;rw[List.map_append,List.sum_append]
       omega
      have u1:=LB i
      have u2:=LB (i+1)
      rw[bH _ default hi,pj]at u2
      have hv:=w1.le30 (by omega) (x.parts.getD i default).farm
      have gv:=q1.get f0 f1
      have hl:=q1.1
      rw[elo,gv,aT (n:=mG (x.parts.take i) n g0 (x.parts.getD i default).farm+loP (x.parts.getD i default) n) (by omega) (by omega),q2,aT (by omega) (by omega),bH _ default hi,pj,zi]
      exact⟨⟨tp,by omega,by omega⟩,q1.set f0 f1,by omega⟩
     have eL:=iO (step:=fun(k_1:Nat) (s_1:List Int×Int) =>(.inr ((s_1.1.set (Int.toNat ((x.parts.getD k_1 (default:Part)).farm)) (IntKind.i64.wrap ((s_1.1.getD (Int.toNat ((x.parts.getD k_1 (default:Part)).farm)) (0:Int))+(dK ((x.parts.getD k_1 (default:Part)).share) n).1))),(IntKind.i64.wrap (s_1.2 - (dK ((x.parts.getD k_1 (default:Part)).share) n).1))):Empty⊕(List Int×Int))) (fun i t=>RowL d.farms.length t.1 (mG (x.parts.take i) n g0)∧t.2=n - cd (x.parts.take i) n) x.parts.length 0 (q0,n) ⟨by simpa[mG]using r1,by simp[cd]⟩ (fun i t _ hi ⟨q1,q2⟩ =>by
      rw[Nat.zero_add]at hi
      exact⟨_,rfl,(loop1 i t hi q1 q2).2⟩)
     obtain⟨⟨t1,lf⟩,e1,a1,a2⟩:=eL
     rw[Nat.zero_add,List.take_length]at a1 a2
     simp only at a1 a2
     obtain⟨q1,q2⟩:=na h0 x.parts _ _ hx2.fit g1
     have loop2:∀ (i:Nat) (t:List Int),i<lf.toNat→RowL d.farms.length t (kE (x.parts.take i) (mG x.parts n g0))→
       (((0≤(i:Int)∧(i:Int) < ((x.parts).length:Int))∧((0≤(x.parts.getD i (default:Part)).farm∧(x.parts.getD i (default:Part)).farm< (t.length:Int))∧(0≤(x.parts.getD i (default:Part)).farm∧(x.parts.getD i (default:Part)).farm< (t.length:Int)))))∧
       RowL d.farms.length (t.set (x.parts.getD i default).farm.toNat (IntKind.i64.wrap ((t.getD (x.parts.getD i default).farm.toNat 0)+1))) (kE (x.parts.take (i+1)) (mG x.parts n g0)):=fun i t hi p1=>by
      have hi':i<x.parts.length:=by omega
      have hm:x.parts.getD i default∈x.parts:=by rw[eD _ _ hi'];exact List.getElem_mem _
      obtain⟨f0,f1,f2,f3⟩:=hx2.fit _ hm
      obtain⟨w1,w2⟩:=pl (x.parts.take i) _ _ (hx2.fit.take _) q1
      have hlen:(x.parts.take i).length=i:=by rw[List.length_take];omega
      have hv:=w1.le30 (by omega) (x.parts.getD i default).farm
      have gv:=p1.get f0 f1
      have hl:=p1.1
      rw[gv,aT (by omega) (by omega),bH _ default hi',xJ]
      exact⟨⟨⟨by omega,by omega⟩,⟨by omega,by omega⟩⟩,p1.set f0 f1⟩
     obtain⟨t2,e2,b1⟩:=iO (step:=fun(k_2:Nat) (s_2:List Int) =>(.inr (s_2.set (Int.toNat ((x.parts.getD k_2 (default:Part)).farm)) (IntKind.i64.wrap ((s_2.getD (Int.toNat ((x.parts.getD k_2 (default:Part)).farm)) (0:Int))+1))):Empty⊕(List Int))) (fun i t=>RowL d.farms.length t (kE (x.parts.take i) (mG x.parts n g0))) lf.toNat 0 t1 (by simpa[kE]using a1) (fun i t _ hi q=>by
      rw[Nat.zero_add]at hi
      exact⟨_,rfl,(loop2 i t hi q).2⟩)
     rw[Nat.zero_add]at b1
     rw[e1]
     simp only[e2]
     refine⟨fun _ _=>⟨by omega,(fun h=>by cases h),fun _=>⟨by omega,(fun h=>by cases h),fun _=>⟨?_,fun z hz=>?_⟩⟩⟩,t2,rfl,?_⟩
     ·refine kf (fun i t=>RowL d.farms.length t.1 (mG (x.parts.take i) n g0)∧t.2=n - cd (x.parts.take i) n) _ _ _ ⟨by simpa[mG]using r1,by simp[cd]⟩ fun i t _ hi q=>⟨fun _=>(loop1 i t (by omega) q.1 q.2).1,fun t' ht=>by cases ht;exact(loop1 i t (by omega) q.1 q.2).2⟩
     ·cases hz
      have hpl:=hx2.len
      refine⟨by simp only;omega,kf (fun i t=>RowL d.farms.length t (kE (x.parts.take i) (mG x.parts n g0))) _ _ _ (by simpa[kE]using a1) fun i t _ hi q=>⟨(loop2 i t (by simpa using hi) q).1,fun t' ht=>by cases ht;exact(loop2 i t (by simpa using hi) q).2⟩⟩
     ·unfold sq
      rw[hn',if_neg hn,if_neg k1,if_pos k2,hG]
      unfold uE
      rw[←a2];exact b1
    ·have c2:(x.kind==2)=false:=by simpa using k2
     simp only[c1,c2,cond_false]
     refine⟨fun _ _=>⟨by omega,(fun h=>by cases h),fun _=>⟨by omega,(fun h=>by cases h),(fun h=>by cases h)⟩⟩,_,rfl,?_⟩
     unfold sq
     rw[if_neg hn,if_neg k1,if_neg k2]
     exact r1
 ·have b0:(x.right !=(r:Int))=true:=by simpa using hr
  simp only[b0,cond_true]
  rw[if_neg (fun h=>hr h.1),if_neg hr,List.append_nil]
  exact⟨(fun _ h=>by cases h),s,rfl,hs⟩
end Go.Sx
end
section
namespace Go.Sx
open Go.Proofs
set_option maxRecDepth 100000
set_option linter.unusedSimpArgs false
theorem Cy {p:Prop}(h:p:=by(first|done|(repeat' (first|with_reducible refine And.intro ?_ ?_|((with_reducible show _≠_);first|assumption|omega|(simp_all [aX,bu];done) |grind) |with_reducible intro _)) <;>(first|done|with_reducible exact Empty.elim ‹Empty› |with_reducible assumption|rfl|omega|assumption|decide|exact fk [0,1,5] |exact fk [0,1,2] |exact czl|(simp only[*,cond_true,cond_false,Bool.not_true,Bool.not_false,go_sem,Nat.reduceBEq,Nat.reduceLeDiff,Nat.reduceLT,decide_true,Nat.reduceAdd,Nat.reduceSub,Nat.reduceMul,Int.reduceLE,Int.reduceLT,Int.reduceToNat,Int.reduceNeg,reduceCtorEq];(repeat' (first|with_reducible refine And.intro ?_ ?_|((with_reducible show _≠_);first|assumption|omega|(simp_all [aX,bu];done) |grind) |with_reducible intro _)) <;>(first|done|assumption|rfl|omega|decide|exact fk [0,1,5] |exact fk [0,1,2] |(simp_all [aX,bu];done))) |(simp_all [okI,aX,bu];done) |(simp_all [aX,bu];(first|done|exact fk2 [0,1,5] |exact fk2 [0,1,2])) |exact fk2 [0,1,5] |exact fk2 [0,1,2]))):p:=h
theorem Cz {p:Prop}(h:p:=by(first|done|(repeat' (first|with_reducible refine And.intro ?_ ?_|((with_reducible show _≠_);first|assumption|omega|(simp_all [aX,bu];done) |grind) |with_reducible intro _)) <;>(first|done|with_reducible exact Empty.elim ‹Empty› |with_reducible assumption|rfl|omega|assumption|decide|exact fk [0,1,2,5] |exact fk [0,1,2,3] |exact czl|(simp only[*,cond_true,cond_false,Bool.not_true,Bool.not_false,go_sem,Nat.reduceBEq,Nat.reduceLeDiff,Nat.reduceLT,decide_true,Nat.reduceAdd,Nat.reduceSub,Nat.reduceMul,Int.reduceLE,Int.reduceLT,Int.reduceToNat,Int.reduceNeg,reduceCtorEq];(repeat' (first|with_reducible refine And.intro ?_ ?_|((with_reducible show _≠_);first|assumption|omega|(simp_all [aX,bu];done) |grind) |with_reducible intro _)) <;>(first|done|assumption|rfl|omega|decide|exact fk [0,1,2,5] |exact fk [0,1,2,3] |(simp_all [aX,bu];done))) |(simp_all [okI,aX,bu];done) |(simp_all [aX,bu];(first|done|exact fk2 [0,1,2,5] |exact fk2 [0,1,2,3])) |exact fk2 [0,1,2,5] |exact fk2 [0,1,2,3]))):p:=h
theorem I9 {p:Prop}(h:p:=by simp only[go_sem,Nat.reduceBEq,Nat.reduceLeDiff,Nat.reduceLT,decide_true,Nat.reduceAdd,Nat.reduceSub,Nat.reduceMul,Int.reduceLE,Int.reduceLT,Int.reduceToNat,Int.reduceNeg,reduceCtorEq,hc,hw];all_goals exact Cy):p:=h
theorem I_ {p:Prop}(h:p:=by simp only[go_sem,Nat.reduceBEq,Nat.reduceLeDiff,Nat.reduceLT,decide_true,Nat.reduceAdd,Nat.reduceSub,Nat.reduceMul,Int.reduceLE,Int.reduceLT,Int.reduceToNat,Int.reduceNeg,reduceCtorEq,hc];all_goals exact Cy):p:=h
theorem Ja {p:Prop}(h:p:=by simp only[go_sem,Nat.reduceBEq,Nat.reduceLeDiff,Nat.reduceLT,decide_true,Nat.reduceAdd,Nat.reduceSub,Nat.reduceMul,Int.reduceLE,Int.reduceLT,Int.reduceToNat,Int.reduceNeg,reduceCtorEq,hc,hw];all_goals exact Cz):p:=h
theorem Jb {p:Prop}(h:p:=by simp only[go_sem,Nat.reduceBEq,Nat.reduceLeDiff,Nat.reduceLT,decide_true,Nat.reduceAdd,Nat.reduceSub,Nat.reduceMul,Int.reduceLE,Int.reduceLT,Int.reduceToNat,Int.reduceNeg,reduceCtorEq,hc];all_goals exact Cz):p:=h
@[go_sem] def iR (l_:List Int)(n:Int)(k_0:Nat)(s_0:Unit):Unit⊕Unit:=(bif((l_.getD k_0 (0:Int)) ==n)then .inl ()else .inr ())
def lr (l_:List Int)(n:Int):Bool:=(match ak (iR l_ n) l_.length 0 ()with| .inl x_0_0=>true| .inr s_0=>false)
@[go_sem] def vg:List SV→Option Con:=(pR .int fun l_=>(pI fun n=>(pE (.det True (.v (.bool (lr l_ n)))))))
theorem AH:FnOk Tryz.prog 55 vg:=by
 have hG:ConsOk Tryz.prog (mkG [] []):=ay cg0 cg0
 refine aU [.o] mixed am hG (fn:=Tryz.f55) (c:=ae Tryz.f55) (by kernel_rfl) (by kernel_rfl) (by kernel_rfl) (by kernel_rfl) (dw fun l_=>(co fun n=>(aI (fun hp=>?_))))
 dsimp only[aG]at hp
 refine⟨Nat.le_of_ble_eq_true rfl,(fun id st=>bif Nat.beq id 0 then some (LCR (ρ:=Unit) (σ:=Unit) 0 [] [] (fun k_0 s_0=>⟨[(0,.rs .int l_),(1,.v (.int .i64 n)),(5,.v (.int .i64 (k_0:Int)))],[]⟩) (iR l_ n) pT l_.length () (True) (fun _=>.ret) (fun x_0_0=>⟨[(4,.v (.bool true))],[]⟩) st)else none),?_,?_⟩
 ·unfold ae Tryz.f55
  simp only[al,true_and,and_true]
  ·refine c_ (l_.length≤bv) mixed am hG (by kernel_rfl) (fun _=>rfl) (l_.length:Int) rfl gM (fun hb0 k_0 s_0 hlt0 _ hw hc=>⟨L0,ah _,?_⟩) (fun hb0 s_0 hc=>?_) fun hb0 k_0 s_0=>?_
   ·exact jh
   ·exact ji
   ·simp only[go_sem,Nat.reduceBEq,Nat.reduceLeDiff,Nat.reduceLT,decide_true,Nat.reduceAdd,Nat.reduceSub,Nat.reduceMul,Int.reduceLE,Int.reduceLT,Int.reduceToNat,Int.reduceNeg,reduceCtorEq,hb0]
 ·unfold ae Tryz.f55
  try unfold lr
  simp only[go_sem,Nat.reduceBEq,Nat.reduceLeDiff,Nat.reduceLT,decide_true,Nat.reduceAdd,Nat.reduceSub,Nat.reduceMul,Int.reduceLE,Int.reduceLT,Int.reduceToNat,Int.reduceNeg,reduceCtorEq]
  all_goals exact cl
@[go_sem] def dG (a0:District)(a1:List Deed)(a2:Int)(k_0:Nat)(s_0:List Int):Empty⊕(List Int):=(bif((a0.rights.getD k_0 (default:Right)).kind==1)then .inr (s_0++((b_ a0 (aW a1 4096 a2) (k_0:Int)).2))else .inr s_0)
def gk (a0:District)(a1:List Deed)(a2:Int)(k_0:Nat)(s_0:List Int):Prop:=(a0.rights.length≤bv→(((a0.rights.getD k_0 (default:Right)).kind==1)=true→((iF a0 (aW a1 4096 a2) (k_0:Int))∧((s_0++((b_ a0 (aW a1 4096 a2) (k_0:Int)).2)).length*8≤gJ))))
@[go_sem] def fq (a1:List Deed)(s_0:List Int)(k_1:Nat)(s_1:List Int):Empty⊕(List Int):=(bif(lr s_0 ((a1.getD k_1 (default:Deed)).no))then .inr (s_1++([(a1.getD k_1 (default:Deed)).no]))else .inr s_1)
def lu (a1:List Deed)(s_0:List Int)(k_1:Nat)(s_1:List Int):Prop:=(a1.length≤bv→((lr s_0 ((a1.getD k_1 (default:Deed)).no))=true→((s_1++([(a1.getD k_1 (default:Deed)).no])).length*8≤gJ)))
def gu (a0:District)(a1:List Deed)(a2:Int):List Int×Int:=(bif((eW a0 a1) !=0)then([],(eW a0 a1))else(bif((decide (a2<0)) ||(decide (a2 > 1048576)))then([],1)else(match ak (dG a0 a1 a2) a0.rights.length 0 ([])with| .inl x=>x.elim| .inr s_0=>(match ak (fq a1 s_0) a1.length 0 ([])with| .inl x=>x.elim| .inr s_1=>(s_1,0)))))
def jw (a0:District)(a1:List Deed)(a2:Int):Prop:=((jq a0 a1)∧(((eW a0 a1) !=0)=false→(((decide (a2<0)) ||(decide (a2 > 1048576)))=false→((fa a1 4096 a2)∧(okI (dG a0 a1 a2) (gk a0 a1 a2) a0.rights.length 0 ([])∧(∀ s_0,ak (dG a0 a1 a2) a0.rights.length 0 ([])=.inr s_0→okI (fq a1 s_0) (lu a1 s_0) a1.length 0 ([])))))))
@[go_sem] def rU:List SV→Option Con:=(pD .district fun a0=>(pR .deed fun a1=>(pI fun a2=>(pE (.det (jw a0 a1 a2) (.tup [.nw .int ((gu a0 a1 a2).1),.v (.int .i64 ((gu a0 a1 a2).2))]))))))
theorem xP:FnOk Tryz.prog 21 rU:=by
 have hG:ConsOk Tryz.prog (mkG [(16,fun l=>od (cT [.st .district,.sl .deed] l)),(53,fun l=>ll (cT [.sl .deed,.o,.o] l)),(54,fun l=>nH (cT [.st .district,.sl .deed,.o] l)),(55,fun l=>vg (cT [.sl .int,.o] l))] []):=ay (cgc (qB.norm [.st .district,.sl .deed]) (cgc (nY.norm [.sl .deed,.o,.o]) (cgc (pG.norm [.st .district,.sl .deed,.o]) (cgc (AH.norm [.sl .int,.o]) cg0)))) cg0
 refine n_ [(.tmp 6,.int)] mixed am hG (fn:=Tryz.f21) (c:=ae Tryz.f21) (by kernel_rfl) (by kernel_rfl) (by kernel_rfl) (by kernel_rfl) (bb fun a0=>(dw fun a1=>(co fun a2=>(aI (fun hp=>?_)))))
 dsimp only[aG]at hp
 unfold jw at hp
 refine⟨Nat.le_of_ble_eq_true rfl,(fun id st=>bif Nat.beq id 0 then some (LCR (ρ:=Empty) (σ:=(List Int)) 2 [.slot 10 (.row .int ([]))] [0,1,2] (fun k_0 s_0=>⟨[(1,.rs .deed a1),(3,.ptr 0 0),(9,.os 1),(10,.os 2),(11,.v (.int .i64 (k_0:Int)))],[.cells (cellsOf .district a0),.row .deed (aW a1 4096 a2),.row .int s_0]⟩) (dG a0 a1 a2) (gk a0 a1 a2) a0.rights.length ([]) (True) ((·.elim)) ((·.elim)) st)else bif Nat.beq id 2 then some (LCR (ρ:=Empty) (σ:=(List Int)) 3 [.slot 14 (.row .int ([]))] [0,1,2,3] (fun k_1 s_1=>⟨[(1,.rs .deed a1),(10,.os 2),(14,.os 3),(15,.v (.int .i64 (k_1:Int)))],[.dead,.dead,.row .int (aX (ak (dG a0 a1 a2) a0.rights.length 0 ([]))),.row .int s_1]⟩) (fq a1 (aX (ak (dG a0 a1 a2) a0.rights.length 0 ([])))) (lu a1 (aX (ak (dG a0 a1 a2) a0.rights.length 0 ([])))) a1.length ([]) (True) ((·.elim)) ((·.elim)) st)else none),?_,?_⟩
 ·unfold ae Tryz.f21
  simp only[al,true_and,and_true]
  refine⟨?_,?_⟩
  ·refine c_ (a0.rights.length≤bv) mixed am hG (by kernel_rfl) (fun _=>rfl) (a0.rights.length:Int) rfl gM (fun hb0 k_0 s_0 hlt0 hq0 hw hc=>⟨L0,ah _,?_⟩) (fun hb0 s_0 hc=>?_) fun hb0 k_0 s_0=>?_
   ·unfold gk at hq0
    try simp only[hw,Int.toNat_natCast]at hq0
    exact I9
   ·exact I_
   ·simp only[go_sem,Nat.reduceBEq,Nat.reduceLeDiff,Nat.reduceLT,decide_true,Nat.reduceAdd,Nat.reduceSub,Nat.reduceMul,Int.reduceLE,Int.reduceLT,Int.reduceToNat,Int.reduceNeg,reduceCtorEq,hb0]
  ·refine c_ (a1.length≤bv) mixed am hG (by kernel_rfl) (fun _=>rfl) (a1.length:Int) rfl gM (fun hb1 k_1 s_1 hlt1 hq1 hw hc=>⟨L0,ah _,?_⟩) (fun hb1 s_1 hc=>?_) fun hb1 k_1 s_1=>?_
   ·unfold lu at hq1
    try simp only[hw,Int.toNat_natCast]at hq1
    exact Ja
   ·exact Jb
   ·simp only[go_sem,Nat.reduceBEq,Nat.reduceLeDiff,Nat.reduceLT,decide_true,Nat.reduceAdd,Nat.reduceSub,Nat.reduceMul,Int.reduceLE,Int.reduceLT,Int.reduceToNat,Int.reduceNeg,reduceCtorEq,hb1]
 ·unfold ae Tryz.f21
  try unfold gu
  simp only[go_sem,Nat.reduceBEq,Nat.reduceLeDiff,Nat.reduceLT,decide_true,Nat.reduceAdd,Nat.reduceSub,Nat.reduceMul,Int.reduceLE,Int.reduceLT,Int.reduceToNat,Int.reduceNeg,reduceCtorEq]
  all_goals exact cl
end Go.Sx
end
section
namespace Go.Sx
universe u
section
variable {α:Type u}
def pV (k:Int→List SV→Option α):List SV→Option α
 | .v (.int .u8 n)::r=>k n r
 |_=>none
@[go_sem] theorem Um {k:Int→List SV→Option α}{n:Int}{r:List SV}:pV k (.v (.int .u8 n)::r)=k n r:=(rfl)
def pW (k:Int→List SV→Option α):List SV→Option α
 | .v (.int .u16 n)::r=>k n r
 |_=>none
@[go_sem] theorem Uo {k:Int→List SV→Option α}{n:Int}{r:List SV}:pW k (.v (.int .u16 n)::r)=k n r:=(rfl)
end
end Go.Sx
end
section
namespace Go.Sx
open Go.Proofs
set_option maxRecDepth 100000
set_option linter.unusedSimpArgs false
end Go.Sx
end
section
namespace Go.Sx
open Go.Proofs
set_option maxRecDepth 100000
set_option linter.unusedSimpArgs false
end Go.Sx
end
section
namespace Go.Sx
open Go.Proofs
end Go.Sx
end
section
namespace Go.Sx
open Go.Proofs
theorem E9:∀ {ds:List Deed} {B:Int→Int→Int} {n:Int},n∈qC ds B→∃ P x S,ds=P++x::S∧x.no=n∧j5 P B x.right x.since=0
 | [],_,_,h=>by cases h
 |y::ds,B,n,h=>by
  simp only[qC]at h
  rcases List.mem_append.1 h with h|h
  ·split at h
   ·rename_i h0
    simp only[List.mem_singleton]at h
    exact⟨[],y,ds,rfl,h.symm,h0⟩
   ·cases h
  ·obtain⟨P,x,S,rfl,e,h0⟩:=E9 h
   exact⟨y::P,x,S,rfl,e,h0⟩
theorem Gu {l:List Deed}(hA:Asc l)(p:Deed→Bool):(l.filter p).Pairwise fun x y=>x.no≠y.no:=(List.Pairwise.filter p hA).imp fun h=>by omega
theorem D2 {a b:List Deed}(h:SameF a b)(ha:a.Pairwise fun x y=>x.no≠y.no):b.Pairwise fun x y=>x.no≠y.no:=by
 rw[List.pairwise_iff_getElem]
 intro i j hi hj hij
 intro e
 by_cases ht:b[i].at_=b[j].at_
 ·have hb:(b.filter fun x=>x.at_==b[i].at_).Pairwise fun x y=>x.no≠y.no:=by
   rw[←h b[i].at_];exact List.Pairwise.filter _ ha
  have key:∀ (L:List Deed) (i j:Nat) (hi:i<L.length) (hj:j<L.length) (p:Deed→Bool),i<j→p L[i]=true→p L[j]=true→(L.filter p).Pairwise (fun x y=>x.no≠y.no)→L[i].no≠L[j].no:=fun L=>by
   induction L with
   |nil=>intro i j hi;cases hi
   |cons x L ih=>
    intro i j hi hj p hij h1 h2 hp
    cases j with
    |zero=>omega
    |succ j=>
     cases i with
     |zero=>
      simp only[List.getElem_cons_zero,List.getElem_cons_succ]at h1 h2 ⊢
      rw[List.filter_cons_of_pos h1]at hp
      exact(List.pairwise_cons.1 hp).1 _ (List.mem_filter.2 ⟨List.getElem_mem _,h2⟩)
     |succ i=>
      simp only[List.getElem_cons_succ]at h1 h2 ⊢
      simp only[List.length_cons]at hi hj
      refine ih i j (by omega) (by omega) p (by omega) h1 h2 ?_
      cases hx:p x with
      |true=>rw[List.filter_cons_of_pos hx]at hp;exact(List.pairwise_cons.1 hp).2
      |false=>rw[List.filter_cons_of_neg (by rw[hx];simp)]at hp;exact hp
  exact key b i j hi hj (fun x=>x.at_==b[i].at_) hij (by simp) (by simp[ht]) hb e
 ·have mi:b[i]∈a:=h.symm.mem (List.getElem_mem hi)
  have mj:b[j]∈a:=h.symm.mem (List.getElem_mem hj)
  obtain⟨u,hu,eu⟩:=List.mem_iff_getElem.1 mi
  obtain⟨v,hv,ev⟩:=List.mem_iff_getElem.1 mj
  have hp:=List.pairwise_iff_getElem.1 ha
  rcases Nat.lt_trichotomy u v with hlt|hlt|hlt
  ·exact hp u v hu hv hlt (by rw[eu,ev,e])
  ·subst hlt;rw[←eu,←ev]at ht;exact ht rfl
  ·exact hp v u hv hu hlt (by rw[eu,ev,e])
end Go.Sx
end
section
namespace Go.Sx
open Go.Proofs
set_option maxRecDepth 100000
set_option linter.unusedSimpArgs false
def dO (a0:District)(a1:List Deed)(a2:Int)(a3:Int):Bool:=(bif(!ln)then false else(bif(!(qX a0 a1))then true else((((d9 ((bS a0 a1 a2 a3).1) ((jv a0 a1 a2 a3).1))&&((bS a0 a1 a2 a3).2==(jv a0 a1 a2 a3).2))&&(iE ((df a0 a1 a3).1) ((gu a0 a1 a3).1)))&&((df a0 a1 a3).2==(gu a0 a1 a3).2))))
def dq (a0:District)(a1:List Deed)(a2:Int)(a3:Int):Prop:=((kG)∧((!ln)=false→((!(qX a0 a1))=false→((eX a0 a1 a2 a3)∧((nI a0 a1 a2 a3)∧((fY a0 a1 a3)∧((jw a0 a1 a3)∧((fG ((bS a0 a1 a2 a3).1) ((jv a0 a1 a2 a3).1))∧(((d9 ((bS a0 a1 a2 a3).1) ((jv a0 a1 a2 a3).1))&&((bS a0 a1 a2 a3).2==(jv a0 a1 a2 a3).2))=true→(iQ ((df a0 a1 a3).1) ((gu a0 a1 a3).1)))))))))))
@[go_sem] def gH:List SV→Option Con:=(pD .district fun a0=>(pR .deed fun a1=>(pI fun a2=>(pI fun a3=>(pE (.det (dq a0 a1 a2 a3) (.v (.bool (dO a0 a1 a2 a3)))))))))
theorem oV:FnOk Tryz.prog 4 gH:=by
 have hG:ConsOk Tryz.prog (mkG [(11,tK),(12,fun l=>ve (cT [.st .district,.sl .deed] l)),(18,fun l=>oe (cT [.st .district,.sl .deed,.o,.o] l)),(19,fun l=>xN (cT [.st .district,.sl .deed,.o,.o] l)),(20,fun l=>lm (cT [.st .district,.sl .deed,.o] l)),(21,fun l=>rU (cT [.st .district,.sl .deed,.o] l)),(22,fun l=>mt (cT [.sl .holding,.sl .holding] l)),(23,fun l=>oU (cT [.sl .int,.sl .int] l))] []):=ay (cgc yp (cgc (AF.norm [.st .district,.sl .deed]) (cgc (qE.norm [.st .district,.sl .deed,.o,.o]) (cgc (Cu.norm [.st .district,.sl .deed,.o,.o]) (cgc (nZ.norm [.st .district,.sl .deed,.o]) (cgc (xP.norm [.st .district,.sl .deed,.o]) (cgc (pL.norm [.sl .holding,.sl .holding]) (cgc (tO.norm [.sl .int,.sl .int]) cg0)))))))) cg0
 refine aU [.o] mixed am hG (fn:=Tryz.f4) (c:=ae Tryz.f4) (by kernel_rfl) (by kernel_rfl) (by kernel_rfl) (by kernel_rfl) (bb fun a0=>(dw fun a1=>(co fun a2=>(co fun a3=>(aI (fun hp=>?_))))))
 dsimp only[aG]at hp
 unfold dq at hp
 refine⟨Nat.le_of_ble_eq_true rfl,L0,ah _,?_⟩
 ·unfold ae Tryz.f4
  try unfold dO
  simp only[go_sem,Nat.reduceBEq,Nat.reduceLeDiff,Nat.reduceLT,decide_true,Nat.reduceAdd,Nat.reduceSub,Nat.reduceMul,Int.reduceLE,Int.reduceLT,Int.reduceToNat,Int.reduceNeg,reduceCtorEq]
  all_goals exact cl
end Go.Sx
end
section
namespace Go.Sx
open Go.Proofs
theorem Mv {d:District}(h:aV d=0)(hR:Right1 d){ds:List Deed}(hd:∀ x∈ds,Fit d x∧x.kind≠4)(hl:ds.length≤512){r:Nat}(hr:r<d.rights.length)(hk:(d.rights.getD r default).kind=1):
  iF d ds (r:Int)∧∃ s,b_ d ds (r:Int)=(s,mu r ds (B0 d))∧RowL d.farms.length s (j5 ds (B0 d) r):=by
 have hto:=tF h hr hk
 have hfl:=hR.farms
 have hrl:=hR.rights
 obtain⟨bg,bt⟩:=E8 h hr hk
 have hg:∀ j,Good d.farms.length (d.rights.getD r default).litres (j5 (ds.take j) (B0 d) r):=fun j=>(AG (ds.take j) _ (fun x hx=>hd x (List.mem_of_mem_take hx)) bg).1
 have h0:RowL d.farms.length ((List.replicate (Int.toNat (d.farms.length:Int)) (0:Int)).set (Int.toNat ((d.rights.getD (Int.toNat (r:Int)) (default:Right)).farm)) (d.rights.getD (Int.toNat (r:Int)) (default:Right)).litres) (B0 d r):=by
  rw[Int.toNat_natCast,Int.toNat_natCast]
  have h1:RowL d.farms.length (List.replicate d.farms.length 0) (fun _=>0):=⟨by simp,fun f hf=>by rw[List.getD_eq_getElem?_getD,List.getElem?_replicate];simp[hf]⟩
  have h2:=h1.set (v:=(d.rights.getD r default).litres) hto.f0 hto.f1
  have e:B0 d r=fI (fun _=>0) (d.rights.getD r default).farm (d.rights.getD r default).litres:=by
   funext f
   unfold B0 fI
   rw[Int.toNat_natCast]
   by_cases hf:f=(d.rights.getD r default).farm
   ·rw[if_pos ⟨by omega,by omega,hk,hf.symm⟩,if_pos hf]
   ·rw[if_neg (fun h=>hf h.2.2.2.symm),if_neg hf]
  rw[e];exact h2
 have drop_succ:∀ j,j<ds.length→ds.drop j=ds.getD j default::ds.drop (j+1):=fun j hj=>by rw[eD _ _ hj,List.drop_eq_getElem_cons hj]
 have elen:∀ (l:List Deed) (B:Int→Int→Int),(mu r l B).length≤l.length:=fun l=>by
  induction l with
  |nil=>intro B;simp[mu]
  |cons x l ih=>
   intro B
   have:=ih (h_ x B)
   simp only[mu,List.length_append,List.length_cons]
   split <;>simp <;>omega
 have step:∀ j (s:List Int×List Int),j<ds.length→s.1++mu r (ds.drop j) (j5 (ds.take j) (B0 d))=mu r ds (B0 d)→RowL d.farms.length s.2 (j5 (ds.take j) (B0 d) r)→
   eF ds r j s∧∃ s',eJ ds r j s=.inr s'∧s'.1++mu r (ds.drop (j+1)) (j5 (ds.take (j+1)) (B0 d))=mu r ds (B0 d)∧RowL d.farms.length s'.2 (j5 (ds.take (j+1)) (B0 d) r):=fun j s hj j1 j2=>by
  obtain⟨e,s⟩:=s
  have hm:ds.getD j default∈ds:=by rw[eD _ _ hj];exact List.getElem_mem _
  have hlen:e.length≤512:=by
   have:=congrArg List.length j1
   rw[List.length_append]at this
   have:=elen ds (B0 d)
   simp only at *
   omega
  obtain⟨q1,s',q2,q3⟩:=I8 (ds:=ds) (j:=j) (r:=r) rfl (hd _ hm).1 (hd _ hm).2 hto.l1 (e:=e) (hg j) j2 (by unfold gJ;omega)
  refine⟨q1,_,q2,?_,?_⟩
  ·rw[←j1,drop_succ j hj,zo ds (B0 d) hj]
   simp only[mu]
   rw[List.append_assoc]
   congr 2
   by_cases h:(ds.getD j default).right=(r:Int)
   ·rw[h]
   ·rw[if_neg (fun q=>h q.1),if_neg (fun q=>h q.1)]
  ·rw[zo ds (B0 d) hj]
   show RowL _ s' (if(r:Int)=(ds.getD j default).right then sq _ (j5 (ds.take j) (B0 d) r)else _)
   by_cases h:(ds.getD j default).right=(r:Int)
   ·rw[if_pos h]at q3;rw[if_pos h.symm];exact q3
   ·rw[if_neg h]at q3;rw[if_neg (fun e=>h e.symm)];exact q3
 obtain⟨⟨e,s⟩,r1,r2,r3⟩:=iO (step:=eJ ds r) (fun j s=>s.1++mu r (ds.drop j) (j5 (ds.take j) (B0 d))=mu r ds (B0 d)∧RowL d.farms.length s.2 (j5 (ds.take j) (B0 d) r)) ds.length 0 ([],_) ⟨by simp[j5],h0⟩ (fun j s _ hj ⟨j1,j2⟩ =>by
  obtain⟨s',q1,q2,q3⟩:=(step j s (by omega) j1 j2).2
  exact⟨s',q1,q2,q3⟩)
 rw[Nat.zero_add,List.take_length]at r2 r3
 rw[List.drop_length]at r2
 simp only[mu,List.append_nil]at r2 r3
 refine⟨fun _=>⟨⟨rfl,by omega,by unfold gJ;omega⟩,fun _=>⟨by omega,by omega,?_,?_⟩⟩,s,?_,r3⟩
 ·rw[Int.toNat_natCast];simp only[List.length_replicate,Int.toNat_natCast];exact⟨hto.f0,hto.f1⟩
 ·exact kf (fun j s=>s.1++mu r (ds.drop j) (j5 (ds.take j) (B0 d))=mu r ds (B0 d)∧RowL d.farms.length s.2 (j5 (ds.take j) (B0 d) r)) _ _ _ ⟨by simp[j5],h0⟩ fun j s _ hj hs=>⟨(step j s (by omega) hs.1 hs.2).1,fun s' h=>by
   obtain⟨s2,q1,q2,q3⟩:=(step j s (by omega) hs.1 hs.2).2
   rw[q1]at h;cases h;exact⟨q2,q3⟩⟩
 ·unfold b_
  rw[r1]
  simp only[r2]
theorem yq {d:District}{B:Int→Int→Int}{r:Nat}(h:B r=fun _=>0):gR d B r=[]:=by
 rw[List.eq_nil_iff_forall_not_mem]
 intro x hx
 obtain⟨f,_,h0,_⟩:=kF.1 hx
 rw[h]at h0
 exact absurd h0 (Int.lt_irrefl 0)
theorem SL (d:District)(l:List Deed)(hour known:Int):nI d l hour known∧jv d l hour known=bS d l hour known:=by
 rw[(vb d l hour known).2]
 unfold nI jv
 rw[E4]
 cases hc:(aq d l !=0)with
 |true=>
  refine⟨⟨mZ d l,(fun h=>by cases h)⟩,?_⟩
  rw[if_pos (by simpa using hc)];rfl
 |false=>
  have hc:aq d l=0:=by simpa using hc
  have hD:=qz hc
  have hE:=((oP d l).1 hc).1
  rw[if_neg (by simp[hc])]
  simp only[cond_false]
  by_cases hg:0≤hour∧hour<d.hours∧0≤known∧known≤1048576
  ·have e:((((decide (hour<0)) ||(decide (hour≥d.hours))) ||(decide (known<0))) ||(decide (known > 1048576)))=false:=by
    simp only[Bool.or_eq_false_iff,decide_eq_false_iff_not];omega
   rw[e,if_pos hg]
   simp only[cond_false]
   obtain⟨c1,c2⟩:=xO hD hour known
   have hlf:=qF hD hour known
   have hlen:(stS (ph l hour known)).length≤512:=by rw[vM];exact Nat.le_trans (List.length_filter_le _ _) hD.len
   have hH:=I5 hE hlf
   have hB:fM d l hour known=j5 (stS (ph l hour known)) (B0 d):=rfl
   have hcl:=zm hD.right (fM d l hour known)
   have hfl:=hD.right.farms
   have hrl:=hD.right.rights
   have row:∀ (j:Nat) (s:List Holding),j<d.rights.length→s=(List.range j).flatMap (gR d (fM d l hour known))→ju d l hour known j s∧jZ d l hour known j s=.inr ((List.range (j+1)).flatMap (gR d (fM d l hour known))):=fun j s hj hs=>by
    rw[List.range_succ,List.flatMap_append,List.flatMap_cons,List.flatMap_nil,List.append_nil,←hs]
    have hslen:s.length≤j*600:=by
     rw[hs]
     have:=tH (gR d (fM d l hour known)) 600 (List.range j) fun r _=>Nat.le_trans (List.length_filterMap_le _ _) (by rw[List.length_range];exact hfl)
     rwa[List.length_range]at this
    unfold ju jZ
    by_cases hk:(d.rights.getD j default).kind=1
    ·have b:((d.rights.getD j default).kind !=1)=false:=by rw[hk];rfl
     rw[b]
     simp only[cond_false]
     obtain⟨p1,q,p2,p3⟩:=Mv hE hD.right hlf hlen hj hk
     have hin:∀ (i:Nat) (t:List Holding),i<d.farms.length→t=s++(List.range i).filterMap (pF d (fM d l hour known) j)→jt d l hour known j i t∧jY d l hour known j i t=.inr (s++(List.range (i+1)).filterMap (pF d (fM d l hour known) j)):=fun i t hi ht=>by
      unfold jt jY
      rw[c2,p2]
      have hq:q.getD i 0=fM d l hour known j i:=p3.2 i hi
      simp only[hq]
      have htl:t.length≤s.length+i:=by rw[ht,List.length_append];have:=List.length_filterMap_le (pF d (fM d l hour known) j) (List.range i);rw[List.length_range]at this;omega
      refine⟨fun _ _=>by rw[vN];unfold gJ;omega,?_⟩
      rw[List.range_succ,List.filterMap_append,←List.append_assoc,←ht]
      by_cases h0:0<fM d l hour known j i
      ·rw[decide_eq_true (show fM d l hour known j i > 0 from h0)]
       have e:pF d (fM d l hour known) j i=some { right:=(j:Int),farm:=(i:Int),litres:=fM d l hour known j i,rank:=(d.rights.getD j default).rank}:=by unfold pF;rw[if_pos h0]
       rw[List.filterMap_cons_some e];rfl
      ·rw[decide_eq_false (show ¬fM d l hour known j i > 0 from h0)]
       have e:pF d (fM d l hour known) j i=none:=by unfold pF;rw[if_neg h0]
       rw[List.filterMap_cons_none e];simp
     have hql:((b_ d (aW l hour known) (j:Int)).1).length=d.farms.length:=by rw[c2,p2];exact p3.1
     obtain⟨t,u1,u2⟩:=iO (step:=jY d l hour known j) (fun i t=>t=s++(List.range i).filterMap (pF d (fM d l hour known) j)) d.farms.length 0 s (by simp) (fun i t _ hi ht=>⟨_,(hin i t (by omega) ht).2,rfl⟩)
     rw[hql,u1]
     refine⟨fun _ _=>⟨by rw[c2];exact p1,kf (fun i t=>t=s++(List.range i).filterMap (pF d (fM d l hour known) j)) _ _ _ (by simp) fun i t _ hi ht=>⟨(hin i t (by omega) ht).1,fun t' h=>?_⟩⟩,?_⟩
     ·rw[(hin i t (by omega) ht).2]at h;cases h;rfl
     ·simp only[u2,Nat.zero_add];rfl
    ·have b:((d.rights.getD j default).kind !=1)=true:=by simpa using hk
     rw[b]
     have e0:fM d l hour known j=fun _=>0:=hH.other j fun hr=>hk (by rw[Int.toNat_natCast]at hr;exact hr.2.2)
     rw[yq e0,List.append_nil]
     exact⟨(fun _ h=>by cases h),rfl⟩
   obtain⟨s,v1,v2⟩:=iO (step:=jZ d l hour known) (fun j s=>s=(List.range j).flatMap (gR d (fM d l hour known))) d.rights.length 0 [] (by simp) (fun j s _ hj hs=>⟨_,(row j s (by omega) hs).2,rfl⟩)
   refine⟨⟨mZ d l,fun _ _=>⟨c1,kf (fun j s=>s=(List.range j).flatMap (gR d (fM d l hour known))) _ _ _ (by simp) fun j s _ hj hs=>⟨(row j s (by omega) hs).1,fun s' h=>?_⟩⟩⟩,?_⟩
   ·rw[(row j s (by omega) hs).2]at h;cases h;rfl
   ·rw[v1,v2,Nat.zero_add];rfl
  ·have e:((((decide (hour<0)) ||(decide (hour≥d.hours))) ||(decide (known<0))) ||(decide (known > 1048576)))=true:=by
    simp only[Bool.or_eq_true,decide_eq_true_eq];omega
   rw[e,if_neg hg]
   exact⟨⟨mZ d l,(fun _ h=>by cases h)⟩,rfl⟩
end Go.Sx
end
section
namespace Go.Sx
open Go.Proofs
theorem LF (l:List Int)(n:Int):lr l n=decide (n∈l):=by
 unfold lr
 cases hr:ak (iR l n) l.length 0 ()with
 |inr s=>
  have h:=dF.1 hr
  symm
  rw[decide_eq_false_iff_not]
  intro hn
  obtain⟨j,hj,rfl⟩:=List.mem_iff_getElem.1 hn
  have:=h j hj
  unfold iR at this
  rw[eD l _ hj]at this
  simp at this
 |inl y=>
  symm
  rw[decide_eq_true_eq]
  refine Classical.byContradiction fun hn=>?_
  have:ak (iR l n) l.length 0 ()=.inr ():=dF.2 fun j hj=>by
   unfold iR
   have:((l.getD j 0) ==n)=false:=by
    rw[beq_eq_false_iff_ne,eD l _ hj]
    exact fun e=>hn (by rw[←e];exact List.getElem_mem _)
   rw[this];rfl
  rw[this]at hr;cases hr
theorem Jc (r:Int):∀ (l:List Deed) (B:Int→Int→Int),(mu r l B).length≤l.length:=fun l=>by
 induction l with
 |nil=>intro B;simp[mu]
 |cons x l ih=>
  intro B
  have:=ih (h_ x B)
  simp only[mu,List.length_append,List.length_cons]
  split <;>simp <;>omega
theorem CA {d:District}:∀ {ds:List Deed} {B:Int→Int→Int} {n:Int},(∀ x∈ds,Fit d x∧x.kind≠4)→(n∈qC ds B↔∃ r:Nat,r<d.rights.length∧(d.rights.getD r default).kind=1∧n∈mu r ds B)
 | [],B,n,_=>by simp[qC,mu]
 |x::ds,B,n,h=>by
  have ih:=CA (ds:=ds) (B:=h_ x B) (n:=n) fun y hy=>h y (List.mem_cons_of_mem _ hy)
  obtain⟨h1,h2⟩:=h x List.mem_cons_self
  obtain⟨a,b,c,_⟩:=h1.held h2
  simp only[qC,mu,List.mem_append,ih]
  constructor
  ·rintro (h| ⟨r,h3,h4,h5⟩)
   ·refine⟨x.right.toNat,by omega,c,.inl ?_⟩
    split at h
    ·rename_i h0
     rw[if_pos ⟨by omega,h0⟩];exact h
    ·cases h
   ·exact⟨r,h3,h4,.inr h5⟩
  ·rintro⟨r,h3,h4,h5|h5⟩
   ·split at h5
    ·rename_i h0
     rw[if_pos h0.2];exact .inl h5
    ·cases h5
   ·exact .inr ⟨r,h3,h4,h5⟩
theorem xQ:∀ (ds:List Deed) (B:Int→Int→Int),(qC ds B).Sublist (ds.map fun x=>x.no)
 | [],_=>List.Sublist.slnil
 |x::ds,B=>by
  simp only[qC,List.map_cons]
  split
  ·exact(xQ ds _).cons_cons _
  ·exact(xQ ds _).cons _
theorem E_ (d:District)(l:List Deed)(known:Int):jw d l known∧gu d l known=df d l known:=by
 rw[(tL d l known).2]
 unfold jw gu
 rw[E4]
 cases hc:(aq d l !=0)with
 |true=>
  refine⟨⟨mZ d l,(fun h=>by cases h)⟩,?_⟩
  rw[if_pos (by simpa using hc)];rfl
 |false=>
  have hc:aq d l=0:=by simpa using hc
  have hD:=qz hc
  have hE:=((oP d l).1 hc).1
  rw[if_neg (by simp[hc])]
  simp only[cond_false]
  by_cases hg:0≤known∧known≤1048576
  ·have e:((decide (known<0)) ||(decide (known > 1048576)))=false:=by
    simp only[Bool.or_eq_false_iff,decide_eq_false_iff_not];omega
   rw[e,if_pos hg]
   simp only[cond_false]
   obtain⟨c1,c2⟩:=xO hD 4096 known
   have hlf:=qF hD 4096 known
   have hlen:(stS (ph l 4096 known)).length≤512:=by rw[vM];exact Nat.le_trans (List.length_filter_le _ _) hD.len
   have hrl:=hD.right.rights
   have hll:=hD.len
   generalize hds:stS (ph l 4096 known)=ds at *
   let t6:Nat→List Int:=fun r=>if(d.rights.getD r default).kind=1 then mu r ds (B0 d)else []
   have rl:∀ r,(t6 r).length≤512:=fun r=>by
    show(if(d.rights.getD r default).kind=1 then mu r ds (B0 d)else []).length≤512
    split
    ·exact Nat.le_trans (Jc _ _ _) hlen
    ·simp
   have row:∀ (j:Nat) (s:List Int),j<d.rights.length→s=(List.range j).flatMap t6→gk d l known j s∧dG d l known j s=.inr ((List.range (j+1)).flatMap t6):=fun j s hj hs=>by
    rw[List.range_succ,List.flatMap_append,List.flatMap_cons,List.flatMap_nil,List.append_nil,←hs]
    have hslen:s.length≤j*512:=by
     rw[hs]
     have:=tH t6 512 (List.range j) fun r _=>rl r
     rwa[List.length_range]at this
    have hrj:=rl j
    unfold gk dG
    by_cases hk:(d.rights.getD j default).kind=1
    ·have b:((d.rights.getD j default).kind==1)=true:=by rw[hk];rfl
     rw[b,c2]
     obtain⟨p1,q,p2,p3⟩:=Mv hE hD.right hlf hlen hj hk
     have er:t6 j=mu j ds (B0 d):=by show(if _ then _ else _)=_;rw[if_pos hk]
     rw[p2,er]
     refine⟨fun _ _=>⟨p1,?_⟩,rfl⟩
     rw[er]at hrj
     rw[List.length_append];dsimp only;unfold gJ;omega
    ·have b:((d.rights.getD j default).kind==1)=false:=by simpa using hk
     have er:t6 j=[]:=by show(if _ then _ else _)=_;rw[if_neg hk]
     rw[b,er,List.append_nil]
     exact⟨(fun _ h=>by cases h),rfl⟩
   obtain⟨s,v1,v2⟩:=iO (step:=dG d l known) (fun j s=>s=(List.range j).flatMap t6) d.rights.length 0 [] (by simp) (fun j s _ hj hs=>⟨_,(row j s (by omega) hs).2,rfl⟩)
   rw[Nat.zero_add]at v2
   have hmem:∀ n,n∈s↔n∈qC ds (B0 d):=fun n=>by
    rw[CA hlf,v2,List.mem_flatMap]
    constructor
    ·rintro⟨r,hr,hn⟩
     rw[List.mem_range]at hr
     have hn:n∈(if(d.rights.getD r default).kind=1 then mu r ds (B0 d)else []):=hn
     split at hn
     ·exact⟨r,hr,by assumption,hn⟩
     ·cases hn
    ·rintro⟨r,hr,hk,hn⟩
     refine⟨r,List.mem_range.2 hr,?_⟩
     show n∈(if(d.rights.getD r default).kind=1 then mu r ds (B0 d)else [])
     rw[if_pos hk];exact hn
   have out:ak (fq l s) l.length 0 []=.inr ((l.filter fun x=>decide (x.no∈s)).map fun x=>x.no):=by
    obtain⟨t,h1,h2⟩:=iO (step:=fq l s) (fun k t=>t=((l.take k).filter fun x=>decide (x.no∈s)).map fun x=>x.no) l.length 0 ([]:List Int) (by simp) (fun j t _ hj ht=>by
     rw[Nat.zero_add]at hj
     unfold fq
     rw[LF,bH l default hj,List.filter_append,List.map_append,ht]
     cases hp:decide ((l.getD j default).no∈s)with
     |true=>exact⟨_,rfl,by rw[List.filter_cons_of_pos (p:=fun x:Deed=>decide (x.no∈s)) hp];rfl⟩
     |false=>exact⟨_,rfl,by rw[List.filter_cons_of_neg (p:=fun x:Deed=>decide (x.no∈s)) (by rw[hp];simp)];simp⟩)
    rw[h1,h2,Nat.zero_add,List.take_length]
   refine⟨⟨mZ d l,fun _ _=>⟨c1,kf (fun j s=>s=(List.range j).flatMap t6) _ _ _ (by simp) (fun j s _ hj hs=>⟨(row j s (by omega) hs).1,fun s' h=>by rw[(row j s (by omega) hs).2]at h;cases h;rfl⟩),fun z hz=>?_⟩⟩,?_⟩
   ·rw[v1]at hz;cases hz
    refine kf (fun k (t:List Int) =>t.length≤k) _ _ _ (Nat.le_refl _) fun j t _ hj ht=>⟨fun _ _=>by rw[vN];unfold gJ;omega,fun t' h=>?_⟩
    unfold fq at h
    cases hh:lr s (l.getD j default).no with
    |true=>rw[hh]at h;cases h;rw[vN];omega
    |false=>rw[hh]at h;cases h;omega
   ·rw[v1]
    simp only[out]
    rw[Prod.mk.injEq]
    refine⟨?_,rfl⟩
    have hasc:((l.filter fun x=>decide (x.no∈s)).map fun x=>x.no).Pairwise (· < ·):=by
     rw[List.pairwise_map];exact List.Pairwise.filter _ hD.asc
    have hsrt:(qx (qC ds (B0 d))).Pairwise fun x y=>decide (x≤y)=true:=by
     unfold qx
     refine List.pairwise_mergeSort (fun a b c h1 h2=>?_) (fun a b=>?_) _
     ·simp only[decide_eq_true_eq]at *;omega
     ·simp only[Bool.or_eq_true,decide_eq_true_eq];omega
    have hN:ds.Pairwise fun x y=>x.no≠y.no:=by rw[←hds];exact D2 (oQ _) (Gu hD.asc _)
    have hnd:(qC ds (B0 d)).Nodup:=(List.pairwise_map.2 hN:(ds.map fun x=>x.no).Nodup).sublist (xQ ds _)
    have hperm:((l.filter fun x=>decide (x.no∈s)).map fun x=>x.no).Perm (qx (qC ds (B0 d))):=by
     refine(E7 (hasc.imp fun {a b} h=>by omega) hnd fun n=>?_).trans (List.mergeSort_perm _ _).symm
     rw[←hmem,List.mem_map]
     constructor
     ·rintro⟨x,hx,rfl⟩;simpa using (List.mem_filter.1 hx).2
     ·intro hn
      obtain⟨P,x,S,e1,e2,_⟩:=E9 ((hmem n).1 hn)
      have hx:x∈ds:=by rw[e1];simp
      rw[←hds]at hx
      exact⟨x,List.mem_filter.2 ⟨(List.mem_filter.1 (EY.1 hx)).1,by simp[e2,hn]⟩,e2⟩
    refine List.Perm.eq_of_pairwise (le:=fun x y=>decide (x≤y)=true) (fun a b _ _ h1 h2=>?_) (hasc.imp fun {a b} h=>by simp only[decide_eq_true_eq];omega) hsrt hperm
    simp only[decide_eq_true_eq]at h1 h2;omega
  ·have e:((decide (known<0)) ||(decide (known > 1048576)))=true:=by
    simp only[Bool.or_eq_true,decide_eq_true_eq];omega
   rw[e,if_neg hg]
   exact⟨⟨mZ d l,(fun _ h=>by cases h)⟩,rfl⟩
theorem LG (a b:List Int):iQ a b:=fun _ _ h=>iL _ _ _ fun j _ _ hj _=>by
 simp only[bne_eq_false_iff_eq]at h
 omega
theorem D3 (a:List Int):iE a a=true:=by
 unfold iE
 have e:ak (fH a a) a.length 0 ()=.inr ():=dF.2 fun j _=>by
  unfold fH;simp
 rw[e];simp
theorem xR (d:District)(l:List Deed)(h k:Int):dq d l h k∧dO d l h k=true:=by
 unfold dq dO
 rw[OC,(SL d l h k).2,(E_ d l k).2]
 refine⟨⟨OF,fun _ _=>⟨(vb _ _ _ _).1,(SL _ _ _ _).1,(tL _ _ _).1,(E_ _ _ _).1,Lz _ _,fun _=>LG _ _⟩⟩,?_⟩
 rw[D1,D3]
 simp
theorem Jd (d:District)(l:List Deed)(h k:Int)(_: -9223372036854775808≤h∧h≤9223372036854775807)(_: -9223372036854775808≤k∧k≤9223372036854775807):dq d l h k:=(xR d l h k).1
theorem Je (d:District)(l:List Deed)(h k:Int)(_: -9223372036854775808≤h∧h≤9223372036854775807)(_: -9223372036854775808≤k∧k≤9223372036854775807):dO d l h k=true:=(xR d l h k).2
end Go.Sx
end
