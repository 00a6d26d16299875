/- Part of the proof that the law ClaimsEasement returns true and leaves its arguments as they were, for all arguments of bulk at most 1048576 (the Upto form). -/
import Derived.Test.YtgdkdhdlfdcefaaGreatC512
import Derived.Test.YtgdkdhdlfdcefaaGreatC509
import Derived.Test.YtgdkdhdlfdcefaaGreatC511
import Derived.Test.YtgdkdhdlfdcefaaGreatC508
import Derived.Test.YtgdkdhdlfdcefaaGreatC507
import Derived.Deep.Slices
import Derived.OpenShut
import Derived.ChangeSame
import Derived.WideKeyArgs
import Derived.Below
import Derived.Test.YtgdkdhdlfdcefaaGreatRows
import Derived.WalkKit
import Derived.ProofKit
import Derived.JoinedCond
import Derived.Carry
set_option linter.all false
set_option maxHeartbeats 4000000
set_option maxRecDepth 100000
section
namespace Go.Sx
open Go.Proofs
def ofF (x:ClaimsFound):Option Claim:=if x.reach<0 then some x.claim else none
def blF (x:ClaimsFound):Option Block:=if 0≤x.reach then some { right:=x.claim.right,farm:=x.claim.farm,hour:=x.claim.hour,reach:=x.reach}else none
def ofL (d:District)(l:List Deed)(k fr to:Int):List Claim:=(fB d l k fr to).filterMap ofF
def blL (d:District)(l:List Deed)(k fr to:Int):List Block:=(fB d l k fr to).filterMap blF
def lim {α:Type}(e:Int)(l:List α):List α×Int:=if e=0 then(if 4096<l.length then([],2)else(l,0))else([],e)
theorem yE {d:District}{l:List Deed}{fr to k:Int}(h:oz d l fr to k=0):(fB d l k fr to).length≤2457600:=by
 rw[←(yD d l k fr to).length_eq];unfold oz at h;split at h
 ·rename_i h1;exact absurd h h1
 ·split at h
  ·cases h
  ·rename_i h2;have h2:mR d fr to k:=Classical.not_not.1 h2;split at h
   ·cases h
   ·rename_i h3;exact sN h2 h3 yC
theorem Dj (d:District)(l:List Deed)(fr to k:Int):jD d l fr to k∧gO d l fr to k=lim (oz d l fr to k) (ofL d l k fr to):=by
 obtain⟨h1,h2⟩:=Kp d l fr to k;by_cases he:oz d l fr to k=0
 ·rw[if_pos he]at h2;have hlen:=yE he;have hstep:∀ j s,j< (fB d l k fr to).length→j6 d l fr to k j s=.inr (s++(ofF ((fB d l k fr to).getD j default)).toList):=fun j s hj=>by
   unfold j6 ofF;rw[h2];simp only;by_cases hq:((fB d l k fr to).getD j default).reach<0
   ·rw[if_pos hq,decide_eq_true hq];rfl
   ·rw[if_neg hq,decide_eq_false hq];simp
  refine⟨⟨h1,fun _ _=>?_⟩,?_⟩
  ·rw[h2];refine Bz (fB d l k fr to) default ofF [] hstep fun j hj=>?_;intro _;rw[h2];have:=sg (fB d l k fr to) ofF j;have h3:=List.length_filterMap_le ofF (fB d l k fr to);rw[List.length_append,List.nil_append,List.length_singleton];unfold eu;omega
  ·unfold gO lim;have hrun:=yA _ default ofF [] hstep;rw[h2];simp only[bne_self_eq_false,cond_false];rw[hrun,if_pos he,List.nil_append];show(bif decide (((ofL d l k fr to).length:Int) > 4096)then([],2)else(ofL d l k fr to,0))=_;by_cases hq:4096< (ofL d l k fr to).length
   ·rw[if_pos hq,decide_eq_true (by omega)];rfl
   ·rw[if_neg hq,decide_eq_false (by omega)];rfl
 ·rw[if_neg he]at h2;have hne:((aD d l fr to k).2 !=0)=true:=by rw[h2];simpa using he
  refine⟨⟨h1,fun h=>by rw[hne]at h;cases h⟩,?_⟩;unfold gO lim;rw[hne,h2,if_neg he];rfl
theorem yF (d:District)(l:List Deed)(fr to k:Int):fm d l fr to k∧aM d l fr to k=lim (oz d l fr to k) (blL d l k fr to):=by
 obtain⟨h1,h2⟩:=Kp d l fr to k;by_cases he:oz d l fr to k=0
 ·rw[if_pos he]at h2;have hlen:=yE he;have hstep:∀ j s,j< (fB d l k fr to).length→fN d l fr to k j s=.inr (s++(blF ((fB d l k fr to).getD j default)).toList):=fun j s hj=>by
   unfold fN blF;rw[h2];simp only;by_cases hq:0≤((fB d l k fr to).getD j default).reach
   ·rw[if_pos hq,decide_eq_true (show _≥(0:Int)from hq)];rfl
   ·rw[if_neg hq,decide_eq_false (show ¬_≥(0:Int)from hq)];simp
  refine⟨⟨h1,fun _ _=>?_⟩,?_⟩
  ·rw[h2];refine Bz (fB d l k fr to) default blF [] hstep fun j hj=>?_;intro _;rw[h2];have:=sg (fB d l k fr to) blF j;have h3:=List.length_filterMap_le blF (fB d l k fr to);rw[List.length_append,List.nil_append,List.length_singleton];unfold eu;omega
  ·unfold aM lim;have hrun:=yA _ default blF [] hstep;rw[h2];simp only[bne_self_eq_false,cond_false];rw[hrun,if_pos he,List.nil_append];show(bif decide (((blL d l k fr to).length:Int) > 4096)then([],2)else(blL d l k fr to,0))=_;by_cases hq:4096< (blL d l k fr to).length
   ·rw[if_pos hq,decide_eq_true (by omega)];rfl
   ·rw[if_neg hq,decide_eq_false (by omega)];rfl
 ·rw[if_neg he]at h2;have hne:((aD d l fr to k).2 !=0)=true:=by rw[h2];simpa using he
  refine⟨⟨h1,fun h=>by rw[hne]at h;cases h⟩,?_⟩;unfold aM lim;rw[hne,h2,if_neg he];rfl
theorem Gu {α β γ:Type}(f:α→List β)(g:β→Option γ):∀ l:List α,(l.flatMap f).filterMap g=l.flatMap fun a=>(f a).filterMap g
 | [] =>rfl
 |a::l=>by rw[List.flatMap_cons,List.flatMap_cons,List.filterMap_append,Gu f g l]
def blH (d:District)(l:List Deed)(k h:Int):List Block:=(pm d l h k).filterMap fun c=>if 0≤rD d c.farm h then some { right:=c.right,farm:=c.farm,hour:=c.hour,reach:=rD d c.farm h}else none
theorem E3 (d:District)(l:List Deed)(k fr to:Int):blL d l k fr to=(hrs fr to).flatMap (blH d l k):=by
 unfold blL fB;rw[Gu];congr 1
 funext h
 rw[List.filterMap_map];rfl
theorem Gv {d:District}{l:List Deed}{k fr to:Int}{b:Block}:b∈blL d l k fr to↔∃ c:Claim,(fr≤c.hour∧c.hour≤to)∧c∈pm d l c.hour k∧0≤rD d c.farm c.hour∧b= { right:=c.right,farm:=c.farm,hour:=c.hour,reach:=rD d c.farm c.hour}:=by
 rw[E3,List.mem_flatMap];constructor
 ·rintro⟨h,hh,hc⟩;unfold blH at hc;rw[List.mem_filterMap]at hc;obtain⟨c',hc',e⟩:=hc;split at e
  ·rename_i hf;cases e;have:=(oy hc').hour;subst this;exact⟨c',Bi.1 hh,hc',hf,rfl⟩
  ·cases e
 ·rintro⟨c,h1,h2,h3,rfl⟩;refine⟨c.hour,Bi.2 h1,?_⟩;unfold blH;rw[List.mem_filterMap];exact⟨c,h2,by rw[if_pos h3]⟩
theorem mn {d:District}{l:List Deed}{fr to k:Int}(h:oz d l fr to k=0):ar d l=0∧mR d fr to k∧¬4096< (to - fr+1)*(d.rights.length:Int):=by
 unfold oz at h;split at h
 ·rename_i h1;exact absurd h h1
 ·rename_i h1;split at h
  ·cases h
  ·rename_i h2;split at h
   ·cases h
   ·rename_i h3;exact⟨Classical.not_not.1 h1,Classical.not_not.1 h2,h3⟩
theorem P8 (a b:List Claim):l7 a b:=fun _ _ h=>nj _ _ _ fun j _ _ hj _=>by
 simp only[bne_eq_false_iff_eq]at h;omega
theorem HV (a:List Claim):mK a a=true:=by
 unfold mK;have e:aq (iZ a a) a.length 0 ()=.inr ():=ip.2 fun j _=>by
  unfold iZ;simp
 rw[e];simp
theorem M9 (a b:List Block):fv a b:=fun _ _ h=>nj _ _ _ fun j _ _ hj _=>by
 simp only[bne_eq_false_iff_eq]at h;omega
theorem yG (a:List Block):fg a a=true:=by
 unfold fg;have e:aq (eY a a) a.length 0 ()=.inr ():=ip.2 fun j _=>by
  unfold eY;simp
 rw[e];simp
def bi:District:=({ name:=(ByteArray.mk #[]),hours:=4,tank:=({ cap:=100,start:=50}:Tank),reaches:=(([({ name:=(ByteArray.mk #[]),up:=(-1),delay:=1,cap:=20,bank:=50,siphon:=0,evap:=({ lo:=0,hi:=0}:Range),seep:=(({ n:=0,d:=1}:Ratio),({ n:=0,d:=1}:Ratio))}:Reach),({ name:=(ByteArray.mk #[]),up:=(-1),delay:=1,cap:=20,bank:=50,siphon:=0,evap:=({ lo:=0,hi:=0}:Range),seep:=(({ n:=0,d:=1}:Ratio),({ n:=0,d:=1}:Ratio))}:Reach)]).set 1 ({ name:=(([({ name:=(ByteArray.mk #[]),up:=(-1),delay:=1,cap:=20,bank:=50,siphon:=0,evap:=({ lo:=0,hi:=0}:Range),seep:=(({ n:=0,d:=1}:Ratio),({ n:=0,d:=1}:Ratio))}:Reach),({ name:=(ByteArray.mk #[]),up:=(-1),delay:=1,cap:=20,bank:=50,siphon:=0,evap:=({ lo:=0,hi:=0}:Range),seep:=(({ n:=0,d:=1}:Ratio),({ n:=0,d:=1}:Ratio))}:Reach)]).getD 1 (default:Reach)).name,up:=0,delay:=(([({ name:=(ByteArray.mk #[]),up:=(-1),delay:=1,cap:=20,bank:=50,siphon:=0,evap:=({ lo:=0,hi:=0}:Range),seep:=(({ n:=0,d:=1}:Ratio),({ n:=0,d:=1}:Ratio))}:Reach),({ name:=(ByteArray.mk #[]),up:=(-1),delay:=1,cap:=20,bank:=50,siphon:=0,evap:=({ lo:=0,hi:=0}:Range),seep:=(({ n:=0,d:=1}:Ratio),({ n:=0,d:=1}:Ratio))}:Reach)]).getD 1 (default:Reach)).delay,cap:=(([({ name:=(ByteArray.mk #[]),up:=(-1),delay:=1,cap:=20,bank:=50,siphon:=0,evap:=({ lo:=0,hi:=0}:Range),seep:=(({ n:=0,d:=1}:Ratio),({ n:=0,d:=1}:Ratio))}:Reach),({ name:=(ByteArray.mk #[]),up:=(-1),delay:=1,cap:=20,bank:=50,siphon:=0,evap:=({ lo:=0,hi:=0}:Range),seep:=(({ n:=0,d:=1}:Ratio),({ n:=0,d:=1}:Ratio))}:Reach)]).getD 1 (default:Reach)).cap,bank:=(([({ name:=(ByteArray.mk #[]),up:=(-1),delay:=1,cap:=20,bank:=50,siphon:=0,evap:=({ lo:=0,hi:=0}:Range),seep:=(({ n:=0,d:=1}:Ratio),({ n:=0,d:=1}:Ratio))}:Reach),({ name:=(ByteArray.mk #[]),up:=(-1),delay:=1,cap:=20,bank:=50,siphon:=0,evap:=({ lo:=0,hi:=0}:Range),seep:=(({ n:=0,d:=1}:Ratio),({ n:=0,d:=1}:Ratio))}:Reach)]).getD 1 (default:Reach)).bank,siphon:=(([({ name:=(ByteArray.mk #[]),up:=(-1),delay:=1,cap:=20,bank:=50,siphon:=0,evap:=({ lo:=0,hi:=0}:Range),seep:=(({ n:=0,d:=1}:Ratio),({ n:=0,d:=1}:Ratio))}:Reach),({ name:=(ByteArray.mk #[]),up:=(-1),delay:=1,cap:=20,bank:=50,siphon:=0,evap:=({ lo:=0,hi:=0}:Range),seep:=(({ n:=0,d:=1}:Ratio),({ n:=0,d:=1}:Ratio))}:Reach)]).getD 1 (default:Reach)).siphon,evap:=(([({ name:=(ByteArray.mk #[]),up:=(-1),delay:=1,cap:=20,bank:=50,siphon:=0,evap:=({ lo:=0,hi:=0}:Range),seep:=(({ n:=0,d:=1}:Ratio),({ n:=0,d:=1}:Ratio))}:Reach),({ name:=(ByteArray.mk #[]),up:=(-1),delay:=1,cap:=20,bank:=50,siphon:=0,evap:=({ lo:=0,hi:=0}:Range),seep:=(({ n:=0,d:=1}:Ratio),({ n:=0,d:=1}:Ratio))}:Reach)]).getD 1 (default:Reach)).evap,seep:=(([({ name:=(ByteArray.mk #[]),up:=(-1),delay:=1,cap:=20,bank:=50,siphon:=0,evap:=({ lo:=0,hi:=0}:Range),seep:=(({ n:=0,d:=1}:Ratio),({ n:=0,d:=1}:Ratio))}:Reach),({ name:=(ByteArray.mk #[]),up:=(-1),delay:=1,cap:=20,bank:=50,siphon:=0,evap:=({ lo:=0,hi:=0}:Range),seep:=(({ n:=0,d:=1}:Ratio),({ n:=0,d:=1}:Ratio))}:Reach)]).getD 1 (default:Reach)).seep}:Reach)),farms:=[({ name:=(ByteArray.mk #[]),reach:=1,area:=10,crop:=0}:Farm),({ name:=(ByteArray.mk #[]),reach:=1,area:=10,crop:=0}:Farm)],crops:=[({ name:=(ByteArray.mk #[]),need:=3}:Crop)],rights:=[({ name:=(ByteArray.mk #[]),kind:=1,farm:=0,reach:=0,rank:=7,litres:=5,since:=0,to:=3,every:=2,length:=1}:Right),({ name:=(ByteArray.mk #[]),kind:=2,farm:=1,reach:=1,rank:=0,litres:=0,since:=0,to:=3,every:=0,length:=0}:Right)],duties:=[],wells:=[]}:District)
def lN:Prop:=(0≤1∧1< (([({ name:=(ByteArray.mk #[]),up:=(-1),delay:=1,cap:=20,bank:=50,siphon:=0,evap:=({ lo:=0,hi:=0}:Range),seep:=(({ n:=0,d:=1}:Ratio),({ n:=0,d:=1}:Ratio))}:Reach),({ name:=(ByteArray.mk #[]),up:=(-1),delay:=1,cap:=20,bank:=50,siphon:=0,evap:=({ lo:=0,hi:=0}:Range),seep:=(({ n:=0,d:=1}:Ratio),({ n:=0,d:=1}:Ratio))}:Reach)]).length:Int))
@[go_sem] def pr:List SV→Option Con:=(pE (.det (lN) (.agg [.v (.string ((bi).name)),.v (.int .i64 ((bi).hours)),.v (.int .i64 ((bi).tank.cap)),.v (.int .i64 ((bi).tank.start)),.nw .reach ((bi).reaches),.nw .farm ((bi).farms),.nw .crop ((bi).crops),.nw .right ((bi).rights),.v (.slice none 0 0),.v (.slice none 0 0)])))
theorem uY:FnOk Tryz.prog 27 pr:=by
 have hG:ConsOk Tryz.prog (mkG [] []):=ay cg0 cg0;refine oS [] mixed an hG (fn:=Tryz.f27) (c:=ae Tryz.f27) kr kr kr kr (aG (fun hp=>?_));dsimp only[aF]at hp;unfold lN at hp;refine⟨nbl rfl,L0,ai _,?_⟩
 ·unfold ae Tryz.f27;try unfold bi
  exact zq1
def j9:=([({ right:=0,farm:=0,hour:=2,litres:=5,rank:=7}:Claim)])
def j_:=([({ right:=0,farm:=0,hour:=0,litres:=0,rank:=7}:Claim)])
def ka:=([({ right:=0,farm:=0,hour:=0,reach:=1}:Block),({ right:=0,farm:=0,hour:=2,reach:=1}:Block)])
def iu:=(bi.rights++([({ name:=(ByteArray.mk #[]),kind:=3,farm:=0,reach:=1,rank:=0,litres:=0,since:=2,to:=3,every:=0,length:=0}:Right)]))
def dq:=({ name:=bi.name,hours:=bi.hours,tank:=bi.tank,reaches:=bi.reaches,farms:=bi.farms,crops:=bi.crops,rights:=bi.rights,duties:=[],wells:=[]}:District)
def cH:=(gO dq ([]) 0 4 0)
def cI:=(gO dq ([]) 0 3 0)
def gb:=(cI.1)
def cJ:=(aM dq ([]) 0 3 0)
def gc:=(cJ.1)
def du:=(gb.length:Int)
def cA:=({ name:=bi.name,hours:=bi.hours,tank:=bi.tank,reaches:=bi.reaches,farms:=bi.farms,crops:=bi.crops,rights:=iu,duties:=[],wells:=[]}:District)
def d_:=(fg gc ka)
def iv:=(fv gc ka)
def cK:=(gO cA ([]) 0 3 0)
def dL:=(cK.1)
def c8:=(aM cA ([]) 0 3 0)
def gP:=(c8.1)
def dY:=(jT cA j_)
def fR:=(mK dL j9)
def i9:=(fv gP ([({ right:=0,farm:=0,hour:=0,reach:=1}:Block)]))
def i_:=(l7 dL j9)
def dw:=(jT cA dL)
def fe:=(dL++dL)
def fS:=(jT cA fe)
def jc:=(fZ cA fe)
def iw:Bool:=(bif((((((((cI.2 !=0) ||(cJ.2 !=0)) ||(cH.2 !=1)) ||(cK.2 !=0)) ||(c8.2 !=0)) ||(dw !=0)) ||(dY !=260)) ||(fS !=260))then false else((((du==0)&&d_)&&fR)&&(fg gP ([({ right:=0,farm:=0,hour:=0,reach:=1}:Block)]))))
def iH:Prop:=((lN)∧((jD dq ([]) 0 3 0)∧((fm dq ([]) 0 3 0)∧((jD dq ([]) 0 4 0)∧((iu.length*88≤eu)∧(iu.length≤a7→((jD cA ([]) 0 3 0)∧((fm cA ([]) 0 3 0)∧(((((((cI.2 !=0) ||(cJ.2 !=0)) ||(cH.2 !=1)) ||(cK.2 !=0)) ||(c8.2 !=0))=false→(fZ cA dL))∧((((((((cI.2 !=0) ||(cJ.2 !=0)) ||(cH.2 !=1)) ||(cK.2 !=0)) ||(c8.2 !=0)) ||(dw !=0))=false→(fZ cA j_))∧(((((((((cI.2 !=0) ||(cJ.2 !=0)) ||(cH.2 !=1)) ||(cK.2 !=0)) ||(c8.2 !=0)) ||(dw !=0)) ||(dY !=260))=true→(((((((((cI.2 !=0) ||(cJ.2 !=0)) ||(cH.2 !=1)) ||(cK.2 !=0)) ||(c8.2 !=0)) ||(dw !=0)) ||(dY !=260))=false→jc)∧(((((((((cI.2 !=0) ||(cJ.2 !=0)) ||(cH.2 !=1)) ||(cK.2 !=0)) ||(c8.2 !=0)) ||(dw !=0)) ||(dY !=260)) ||(fS !=260))=false→(gb.length≤a7→(((du==0)=true→iv)∧((((du==0)&&d_)=true→i_)∧((((du==0)&&d_)&&fR)=true→i9)))))))∧((((((((cI.2 !=0) ||(cJ.2 !=0)) ||(cH.2 !=1)) ||(cK.2 !=0)) ||(c8.2 !=0)) ||(dw !=0)) ||(dY !=260))=false→((fe.length*40≤eu)∧(fe.length≤a7→(((((((((cI.2 !=0) ||(cJ.2 !=0)) ||(cH.2 !=1)) ||(cK.2 !=0)) ||(c8.2 !=0)) ||(dw !=0)) ||(dY !=260))=false→jc)∧(((((((((cI.2 !=0) ||(cJ.2 !=0)) ||(cH.2 !=1)) ||(cK.2 !=0)) ||(c8.2 !=0)) ||(dw !=0)) ||(dY !=260)) ||(fS !=260))=false→(gb.length≤a7→(((du==0)=true→iv)∧((((du==0)&&d_)=true→i_)∧((((du==0)&&d_)&&fR)=true→i9))))))))))))))))))))
@[go_sem] def ub:List SV→Option Con:=(pE (.det (iH) (.v (.bool (iw)))))
theorem zc:FnOk Tryz.prog 10 ub:=by
 have hG:ConsOk Tryz.prog (mkG [(12,fun l=>vH (dH [.st .district,.sl .deed,.o,.o,.o] l)),(14,fun l=>kE (dH [.st .district,.sl .deed,.o,.o,.o] l)),(16,fun l=>tM (dH [.sl .claim,.sl .claim] l)),(17,fun l=>mL (dH [.sl .block,.sl .block] l)),(19,fun l=>qm (dH [.st .district,.sl .claim] l)),(27,pr)] []):=ay (cgc (Bp.norm [.st .district,.sl .deed,.o,.o,.o]) (cgc (nC.norm [.st .district,.sl .deed,.o,.o,.o]) (cgc (y3.norm [.sl .claim,.sl .claim]) (cgc (rt.norm [.sl .block,.sl .block]) (cgc (vV.norm [.st .district,.sl .claim]) (cgc uY cg0)))))) cg0;refine ba [.o] mixed an hG (fn:=Tryz.f10) (c:=ae Tryz.f10) kr kr kr kr (aG (fun hp=>?_));dsimp only[aF]at hp;unfold iH at hp;try simp only[j9,j_,ka,iu,dq,cH,cI,gb,cJ,gc,du,cA,d_,iv,cK,dL,c8,gP,dY,fR,i9,i_,dw,fe,fS,jc]at hp
 refine⟨nbl rfl,L0,ai _,?_⟩
 ·unfold ae Tryz.f10;try unfold iw
  simp (maxSteps:=1000000) only[go_sem,Nat.reduceBEq,Nat.reduceLeDiff,Nat.reduceLT,decide_true,Nat.reduceAdd,Nat.reduceSub,Nat.reduceMul,Int.reduceLE,Int.reduceLT,Int.reduceToNat,Int.reduceNeg,reduceCtorEq,j9,j_,ka,iu,dq,cH,cI,gb,cJ,gc,du,cA,d_,iv,cK,dL,c8,gP,dY,fR,i9,i_,dw,fe,fS,jc];all_goals exact cl
structure FineC (d:District)(x:Claim):Prop where
 r0:0≤x.right
 r1:x.right< (d.rights.length:Int)
 f0:0≤x.farm
 f1:x.farm< (d.farms.length:Int)
 h0:0≤x.hour
 h1:x.hour<d.hours
 l0:1≤x.litres
 l1:x.litres≤1073741824
 kind:(d.rights.getD x.right.toNat default).kind=1
 rank:(d.rights.getD x.right.toNat default).rank=x.rank
def Kq (d:District)(x:Claim):Bool:=(((((((decide (x.right≥0))&&(decide (x.right< (d.rights.length:Int))))&&(decide (x.farm≥0)))&&(decide (x.farm< (d.farms.length:Int))))&&(decide (x.hour≥0)))&&(decide (x.hour<d.hours)))&&(decide (x.litres≥1)))&&(decide (x.litres≤1073741824))
theorem HW (d:District)(x:Claim):Kq d x=true↔(0≤x.right∧x.right< (d.rights.length:Int))∧(0≤x.farm∧x.farm< (d.farms.length:Int))∧(0≤x.hour∧x.hour<d.hours)∧(1≤x.litres∧x.litres≤1073741824):=by
 unfold Kq;simp only[Bool.and_eq_true,decide_eq_true_eq];omega
theorem Kr (d:District)(c:List Claim):fZ d c:=fun _ _ h _=>nj _ _ _ fun j _ _ hj=>by
 have hle:c.length≤4096:=by have:=of_decide_eq_false h;omega
 have h8:=HW d (c.getD j default);unfold Kq at h8;unfold g5;refine⟨fun h=>?_,fun h=>?_,fun h h0=>?_⟩
 ·rw[Bool.not_eq_false']at h;exact(h8.1 h).1
 ·rw[Bool.or_eq_false_iff,Bool.not_eq_false']at h;exact(h8.1 h.1).1
 ·have h0:=of_decide_eq_true h0;rw[bt (by omega) (by omega)];omega
def uZ (d:District)(l:List Deed)(k fr to:Int):List ClaimsFound:=(hrs fr to).flatMap fun h=>(((jE d (j7 d l h k)).filterMap (opn d h)).foldl zb []).map (fnd d h)
theorem Dk {d:District}{l:List Deed}{k fr to:Int}(h:oz d l fr to k=0):fB d l k fr to=uZ d l k fr to:=by
 obtain⟨hc,⟨⟨a,b,c⟩,e,f⟩,_⟩:=mn h;unfold fB uZ;have:∀ L:List Int,(∀ x∈L,fr≤x∧x≤to)→(L.flatMap fun h=>(pm d l h k).map (fnd d h))=L.flatMap fun h=>(((jE d (j7 d l h k)).filterMap (opn d h)).foldl zb []).map (fnd d h):=fun L=>by
  induction L with
  |nil=>intro _;rfl
  |cons x L ih=>
   intro hL;have hx:=hL x (by simp);rw[List.flatMap_cons,List.flatMap_cons,ih fun y hy=>hL y (by simp[hy])];congr 2
   unfold pm g7;rw[(yq d l x k).2,if_neg (by simp[hc]),if_pos (by omega)]
 exact this _ fun x hx=>Bi.1 hx
theorem Gw {d:District}{l:List Deed}{k fr to:Int}{F:List ClaimsFound}(h:oz d l fr to k=0)(hF:uZ d l k fr to=F)(h1:decide (4096< (F.filterMap ofF).length)=false):gO d l fr to k=(F.filterMap ofF,0):=by
 rw[(Dj d l fr to k).2];unfold lim ofL;rw[Dk h,hF,if_pos h,if_neg (of_decide_eq_false h1)]
theorem Gx {d:District}{l:List Deed}{k fr to:Int}{F:List ClaimsFound}(h:oz d l fr to k=0)(hF:uZ d l k fr to=F)(h1:decide (4096< (F.filterMap blF).length)=false):aM d l fr to k=(F.filterMap blF,0):=by
 rw[(yF d l fr to k).2];unfold lim blL;rw[Dk h,hF,if_pos h,if_neg (of_decide_eq_false h1)]
abbrev Dl (h:Int):Claim:= { right:=0,farm:=0,hour:=h,litres:=5,rank:=7}
theorem ex1:oz dq [] 0 3 0=0:=by kernel_rfl
theorem ex2:uZ dq [] 0 0 3=[{ claim:=Dl 0,reach:=1},{ claim:=Dl 2,reach:=1}]:=by kernel_rfl
theorem ex3:oz cA [] 0 3 0=0:=by kernel_rfl
theorem ex4:uZ cA [] 0 0 3=[{ claim:=Dl 0,reach:=1},{ claim:=Dl 2,reach:= -1}]:=by kernel_rfl
theorem s19:cI=([],0):=Gw ex1 ex2 kr
theorem s17:cJ=([{ right:=0,farm:=0,hour:=0,reach:=1},{ right:=0,farm:=0,hour:=2,reach:=1}],0):=Gx ex1 ex2 kr
theorem s20:cH=([],1):=by
 have h:oz dq [] 0 4 0=1:=by kernel_rfl
 unfold cH;rw[(Dj _ _ _ _ _).2];unfold lim;rw[h];rfl
theorem s11:cK=([Dl 2],0):=Gw ex3 ex4 kr
theorem s9:c8=([{ right:=0,farm:=0,hour:=0,reach:=1}],0):=Gx ex3 ex4 kr
theorem s10:dL=[Dl 2]:=by unfold dL;rw[s11]
theorem s2:fe=[Dl 2,Dl 2]:=by unfold fe;rw[s10];rfl
theorem s3:dw=0:=by unfold dw;rw[s10];kernel_rfl
theorem s7:dY=260:=by kernel_rfl
theorem s1:fS=260:=by unfold fS;rw[s2];kernel_rfl
theorem s16:gc=[{ right:=0,farm:=0,hour:=0,reach:=1},{ right:=0,farm:=0,hour:=2,reach:=1}]:=by unfold gc;rw[s17]
theorem s8:gP=[{ right:=0,farm:=0,hour:=0,reach:=1}]:=by unfold gP;rw[s9]
theorem s13:d_=true:=by unfold d_;rw[s16];exact yG _
theorem s6:fR=true:=by unfold fR;rw[s10];exact HV _
theorem s15:du=0:=by unfold du gb;rw[s19];rfl
theorem P9:iw=true:=by
 unfold iw;rw[s19,s17,s20,s11,s9,s3,s7,s1,s13,s6,s15,s8,yG];rfl
theorem uc:iH:=by
 unfold iH jc iv i_ i9;refine⟨⟨by omega,of_decide_eq_true kr⟩,(Dj _ _ _ _ _).1,(yF _ _ _ _ _).1,(Dj _ _ _ _ _).1,?_,fun _=>⟨(Dj _ _ _ _ _).1,(yF _ _ _ _ _).1,?_⟩⟩
 ·exact nbl kr
 ·simp only[Kr,M9,P8,true_and,and_true,implies_true,true_imp_iff];intro _;rw[s2];exact nbl kr
@[go_sem] def kG (d:District)(l_:List Deed)(fr:Int)(to:Int)(known:Int)(k_0:Nat)(s_0:List (Block×Bool)):Empty⊕(List (Block×Bool)):=.inr (eU .block .bool s_0 ({ right:=(((aM d l_ fr to known).1).getD k_0 (default:Block)).right,farm:=(((aM d l_ fr to known).1).getD k_0 (default:Block)).farm,hour:=(((aM d l_ fr to known).1).getD k_0 (default:Block)).hour,reach:=0}:Block) true)
def ag (d:District)(l_:List Deed)(fr:Int)(to:Int)(known:Int):List (Block×Bool)×Bool:=(match aq (kG d l_ fr to known) (((aM d l_ fr to known).1).length) 0 ([])with| .inl x=>x.elim| .inr s_0=>(s_0,((aM d l_ fr to known).2==0)))
def c5 (d:District)(l_:List Deed)(fr:Int)(to:Int)(known:Int):Prop:=(fm d l_ fr to known)
@[go_sem] def pt:List SV→Option Con:=(pD .district fun d=>(pR .deed fun l_=>(pI fun fr=>(pI fun to=>(pI fun known=>(pE (.det (c5 d l_ fr to known) (.tup [.nm .block .bool ((ag d l_ fr to known).1),.v (.bool ((ag d l_ fr to known).2))]))))))))
theorem u0:FnOk Tryz.prog 25 pt:=by
 have hG:ConsOk Tryz.prog (mkG [(14,fun l=>kE (dH [.st .district,.sl .deed,.o,.o,.o] l))] []):=ay (cgc (nC.norm [.st .district,.sl .deed,.o,.o,.o]) cg0) cg0;refine Et true mixed an hG (fn:=Tryz.f25) (c:=ae Tryz.f25) kr kr kr kr (aW fun d=>(ef fun l_=>(bY fun fr=>(bY fun to=>(bY fun known=>(aG (fun hp=>?_)))))));dsimp only[aF]at hp;unfold c5 at hp;refine⟨nbl rfl,(fun id st=>bif Nat.beq id 0 then some (LCR (ρ:=Empty) (σ:=(List (Block×Bool))) 3 [] [0,1,2] (fun k_0 s_0=>⟨[(13,.v (.int .i64 ((aM d l_ fr to known).2))),(14,.os 2),(27,.os 1),(28,.v (.int .i64 (((aM d l_ fr to known).1).length:Int))),(29,.v (.int .i64 (k_0:Int)))],[.dead,.row .block ((aM d l_ fr to known).1),.mp .block .bool s_0 none]⟩) (kG d l_ fr to known) pT (((aM d l_ fr to known).1).length) ([]) (((aM d l_ fr to known).1).length≤a7) ((·.elim)) ((·.elim)) st)else none),?_,?_⟩
 ·unfold ae Tryz.f25;simp only[am,true_and,and_true]
  ·refine dg mixed an hG kr (fun _=>rfl) (((aM d l_ fr to known).1).length:Int) rfl iO (fun hb0 k_0 s_0 hlt0 _ hw hc=>⟨L0,ai _,?_⟩) (fun hb0 s_0 hc=>?_)
   ·exact cm (jl [0,1,2])
   ·exact cn (jl [0,1,2])
 ·unfold ae Tryz.f25;try unfold ag
  exact zq1
end Go.Sx
end
section
namespace Go.Sx
universe u
section
variable {α:Type u}
def pV (k:Int→List SV→Option α):List SV→Option α
 | .v (.int .u8 n)::r=>k n r
 |_=>none
@[go_sem] theorem V0 {k:Int→List SV→Option α}{n:Int}{r:List SV}:pV k (.v (.int .u8 n)::r)=k n r:=(rfl)
def pW (k:Int→List SV→Option α):List SV→Option α
 | .v (.int .u16 n)::r=>k n r
 |_=>none
@[go_sem] theorem V3 {k:Int→List SV→Option α}{n:Int}{r:List SV}:pW k (.v (.int .u16 n)::r)=k n r:=(rfl)
theorem P_ {k:Int→List SV→Option α}{l:List SV}{c:α}(h:pW k l=some c):∃ n r,l=.v (.int .u16 n)::r∧k n r=some c:=by
 unfold pW at h;split at h
 ·exact⟨_,_,rfl,h⟩
 ·cases h
theorem Qa {G:List SV→α→Prop}{k:Int→List SV→Option α}(h:∀ n l c,k n l=some c→G (.v (.int .u16 n)::l) c):∀ l c,pW k l=some c→G l c:=fun l c hc=>by
 obtain⟨n,r,rfl,h1⟩:=P_ hc;exact h n r c h1
end
end Go.Sx
end
section
namespace Go.Sx
theorem Dm {P:Program}{ro:Option Nat}{N id:Nat}{c:Code}{C:St→Option LCon}(h:∀ st,C st=none):gn P ro N id c C:=fun _ _ _ st _ e=>by rw[h st]at e;cases e
@[go_sem] theorem Uu {te:TI}{nx:Nat}{h:List Ob}{s:SV}:iL te nx h [.any,s]=.bad:=(rfl)
@[go_sem] theorem WS {t:Tag}{f:List t.T→List SV→Option Con}{l:List SV}:pR t f (.any::l)=none:=(rfl)
end Go.Sx
end
section
namespace Go.Sx
open Go.Proofs
open IntKind (i64)
@[go_sem] def bQ (a0:District)(a1:List Deed)(a2:Int)(a3:Int)(a4:Int)(a5:Right)(k_0:Block×Bool)(s_0:Unit):Unit⊕Unit:=(bif(!(bF .block .bool ((ag a0 a1 a2 a3 a4).1) k_0.1))then .inl ()else .inr ())
def dB (a0:District)(a1:List Deed)(a2:Int)(a3:Int)(a4:Int)(a5:Right)(k_0:Block×Bool)(s_0:Unit):Prop:=True
@[go_sem] def bD (a0:District)(a1:List Deed)(a2:Int)(a3:Int)(a4:Int)(a5:Right)(k_1:Block×Bool)(s_1:Unit):Unit⊕Unit:=(bif((!(bF .block .bool ((ag ({ name:=a0.name,hours:=a0.hours,tank:=a0.tank,reaches:=a0.reaches,farms:=a0.farms,crops:=a0.crops,rights:=((([])++a0.rights)++([({ name:=a5.name,kind:=3,farm:=a5.farm,reach:=a5.reach,rank:=a5.rank,litres:=a5.litres,since:=a5.since,to:=a5.to,every:=a5.every,length:=a5.length}:Right)])),duties:=a0.duties,wells:=a0.wells}:District) a1 a2 a3 a4).1) k_1.1))&&(k_1.1.farm !=a5.farm))then .inl ()else .inr ())
def dC (a0:District)(a1:List Deed)(a2:Int)(a3:Int)(a4:Int)(a5:Right)(k_1:Block×Bool)(s_1:Unit):Prop:=True
@[go_sem] def ce (a0:District)(a1:List Deed)(a2:Int)(a3:Int)(a4:Int)(a6:Int)(k_2:Block×Bool)(s_2:Unit):Unit⊕Unit:=(bif(!(bF .block .bool ((ag a0 a1 a2 a3 a4).1) k_2.1))then .inl ()else .inr ())
def eo (a0:District)(a1:List Deed)(a2:Int)(a3:Int)(a4:Int)(a6:Int)(k_2:Block×Bool)(s_2:Unit):Prop:=True
@[go_sem] def cg (a0:District)(a1:List Deed)(a2:Int)(a3:Int)(a4:Int)(a6:Int)(k_3:Block×Bool)(s_3:Unit):Unit⊕Unit:=(bif(!(bF .block .bool ((ag a0 a1 a2 a3 a4).1) k_3.1))then .inl ()else .inr ())
def er (a0:District)(a1:List Deed)(a2:Int)(a3:Int)(a4:Int)(a6:Int)(k_3:Block×Bool)(s_3:Unit):Prop:=True
def cP (a0:District)(a1:List Deed)(a2:Int)(a3:Int)(a4:Int)(a5:Right)(a6:Int):Bool:=(bif(!iw)then false else(bif((!(kA a0 a1 a2 a3)) ||(decide ((a0.rights.length:Int)≥256)))then true else(bif(!(ag a0 a1 a2 a3 a4).2)then true else(bif(ag ({ name:=a0.name,hours:=a0.hours,tank:=a0.tank,reaches:=a0.reaches,farms:=a0.farms,crops:=a0.crops,rights:=((([])++a0.rights)++([({ name:=a5.name,kind:=3,farm:=a5.farm,reach:=a5.reach,rank:=a5.rank,litres:=a5.litres,since:=a5.since,to:=a5.to,every:=a5.every,length:=a5.length}:Right)])),duties:=a0.duties,wells:=a0.wells}:District) a1 a2 a3 a4).2 then(match ct (bQ a0 a1 a2 a3 a4 a5) ((ag ({ name:=a0.name,hours:=a0.hours,tank:=a0.tank,reaches:=a0.reaches,farms:=a0.farms,crops:=a0.crops,rights:=((([])++a0.rights)++([({ name:=a5.name,kind:=3,farm:=a5.farm,reach:=a5.reach,rank:=a5.rank,litres:=a5.litres,since:=a5.since,to:=a5.to,every:=a5.every,length:=a5.length}:Right)])),duties:=a0.duties,wells:=a0.wells}:District) a1 a2 a3 a4).1) ()with| .inl x_0_0=>false| .inr s_0=>(match ct (bD a0 a1 a2 a3 a4 a5) ((ag a0 a1 a2 a3 a4).1) ()with| .inl x_1_0=>false| .inr s_1=>(bif((a0.rights.length:Int) ==0)then true else(bif((a0.rights.getD (Int.toNat (Int.tmod (i64.wrap a6) (a0.rights.length:Int))) (default:Right)).kind !=2)then true else(bif(!(ag ({ name:=a0.name,hours:=a0.hours,tank:=a0.tank,reaches:=a0.reaches,farms:=a0.farms,crops:=a0.crops,rights:=((([])++a0.rights).set (Int.toNat (Int.tmod (i64.wrap a6) (a0.rights.length:Int))) ({ name:=((([])++a0.rights).getD (Int.toNat (Int.tmod (i64.wrap a6) (a0.rights.length:Int))) (default:Right)).name,kind:=3,farm:=((([])++a0.rights).getD (Int.toNat (Int.tmod (i64.wrap a6) (a0.rights.length:Int))) (default:Right)).farm,reach:=((([])++a0.rights).getD (Int.toNat (Int.tmod (i64.wrap a6) (a0.rights.length:Int))) (default:Right)).reach,rank:=((([])++a0.rights).getD (Int.toNat (Int.tmod (i64.wrap a6) (a0.rights.length:Int))) (default:Right)).rank,litres:=((([])++a0.rights).getD (Int.toNat (Int.tmod (i64.wrap a6) (a0.rights.length:Int))) (default:Right)).litres,since:=((([])++a0.rights).getD (Int.toNat (Int.tmod (i64.wrap a6) (a0.rights.length:Int))) (default:Right)).since,to:=((([])++a0.rights).getD (Int.toNat (Int.tmod (i64.wrap a6) (a0.rights.length:Int))) (default:Right)).to,every:=((([])++a0.rights).getD (Int.toNat (Int.tmod (i64.wrap a6) (a0.rights.length:Int))) (default:Right)).every,length:=((([])++a0.rights).getD (Int.toNat (Int.tmod (i64.wrap a6) (a0.rights.length:Int))) (default:Right)).length}:Right)),duties:=a0.duties,wells:=a0.wells}:District) a1 a2 a3 a4).2)then false else(match ct (ce a0 a1 a2 a3 a4 a6) ((ag ({ name:=a0.name,hours:=a0.hours,tank:=a0.tank,reaches:=a0.reaches,farms:=a0.farms,crops:=a0.crops,rights:=((([])++a0.rights).set (Int.toNat (Int.tmod (i64.wrap a6) (a0.rights.length:Int))) ({ name:=((([])++a0.rights).getD (Int.toNat (Int.tmod (i64.wrap a6) (a0.rights.length:Int))) (default:Right)).name,kind:=3,farm:=((([])++a0.rights).getD (Int.toNat (Int.tmod (i64.wrap a6) (a0.rights.length:Int))) (default:Right)).farm,reach:=((([])++a0.rights).getD (Int.toNat (Int.tmod (i64.wrap a6) (a0.rights.length:Int))) (default:Right)).reach,rank:=((([])++a0.rights).getD (Int.toNat (Int.tmod (i64.wrap a6) (a0.rights.length:Int))) (default:Right)).rank,litres:=((([])++a0.rights).getD (Int.toNat (Int.tmod (i64.wrap a6) (a0.rights.length:Int))) (default:Right)).litres,since:=((([])++a0.rights).getD (Int.toNat (Int.tmod (i64.wrap a6) (a0.rights.length:Int))) (default:Right)).since,to:=((([])++a0.rights).getD (Int.toNat (Int.tmod (i64.wrap a6) (a0.rights.length:Int))) (default:Right)).to,every:=((([])++a0.rights).getD (Int.toNat (Int.tmod (i64.wrap a6) (a0.rights.length:Int))) (default:Right)).every,length:=((([])++a0.rights).getD (Int.toNat (Int.tmod (i64.wrap a6) (a0.rights.length:Int))) (default:Right)).length}:Right)),duties:=a0.duties,wells:=a0.wells}:District) a1 a2 a3 a4).1) ()with| .inl x_2_0=>false| .inr s_2=>true))))))else(bif((a0.rights.length:Int) ==0)then true else(bif((a0.rights.getD (Int.toNat (Int.tmod (i64.wrap a6) (a0.rights.length:Int))) (default:Right)).kind !=2)then true else(bif(!(ag ({ name:=a0.name,hours:=a0.hours,tank:=a0.tank,reaches:=a0.reaches,farms:=a0.farms,crops:=a0.crops,rights:=((([])++a0.rights).set (Int.toNat (Int.tmod (i64.wrap a6) (a0.rights.length:Int))) ({ name:=((([])++a0.rights).getD (Int.toNat (Int.tmod (i64.wrap a6) (a0.rights.length:Int))) (default:Right)).name,kind:=3,farm:=((([])++a0.rights).getD (Int.toNat (Int.tmod (i64.wrap a6) (a0.rights.length:Int))) (default:Right)).farm,reach:=((([])++a0.rights).getD (Int.toNat (Int.tmod (i64.wrap a6) (a0.rights.length:Int))) (default:Right)).reach,rank:=((([])++a0.rights).getD (Int.toNat (Int.tmod (i64.wrap a6) (a0.rights.length:Int))) (default:Right)).rank,litres:=((([])++a0.rights).getD (Int.toNat (Int.tmod (i64.wrap a6) (a0.rights.length:Int))) (default:Right)).litres,since:=((([])++a0.rights).getD (Int.toNat (Int.tmod (i64.wrap a6) (a0.rights.length:Int))) (default:Right)).since,to:=((([])++a0.rights).getD (Int.toNat (Int.tmod (i64.wrap a6) (a0.rights.length:Int))) (default:Right)).to,every:=((([])++a0.rights).getD (Int.toNat (Int.tmod (i64.wrap a6) (a0.rights.length:Int))) (default:Right)).every,length:=((([])++a0.rights).getD (Int.toNat (Int.tmod (i64.wrap a6) (a0.rights.length:Int))) (default:Right)).length}:Right)),duties:=a0.duties,wells:=a0.wells}:District) a1 a2 a3 a4).2)then false else(match ct (cg a0 a1 a2 a3 a4 a6) ((ag ({ name:=a0.name,hours:=a0.hours,tank:=a0.tank,reaches:=a0.reaches,farms:=a0.farms,crops:=a0.crops,rights:=((([])++a0.rights).set (Int.toNat (Int.tmod (i64.wrap a6) (a0.rights.length:Int))) ({ name:=((([])++a0.rights).getD (Int.toNat (Int.tmod (i64.wrap a6) (a0.rights.length:Int))) (default:Right)).name,kind:=3,farm:=((([])++a0.rights).getD (Int.toNat (Int.tmod (i64.wrap a6) (a0.rights.length:Int))) (default:Right)).farm,reach:=((([])++a0.rights).getD (Int.toNat (Int.tmod (i64.wrap a6) (a0.rights.length:Int))) (default:Right)).reach,rank:=((([])++a0.rights).getD (Int.toNat (Int.tmod (i64.wrap a6) (a0.rights.length:Int))) (default:Right)).rank,litres:=((([])++a0.rights).getD (Int.toNat (Int.tmod (i64.wrap a6) (a0.rights.length:Int))) (default:Right)).litres,since:=((([])++a0.rights).getD (Int.toNat (Int.tmod (i64.wrap a6) (a0.rights.length:Int))) (default:Right)).since,to:=((([])++a0.rights).getD (Int.toNat (Int.tmod (i64.wrap a6) (a0.rights.length:Int))) (default:Right)).to,every:=((([])++a0.rights).getD (Int.toNat (Int.tmod (i64.wrap a6) (a0.rights.length:Int))) (default:Right)).every,length:=((([])++a0.rights).getD (Int.toNat (Int.tmod (i64.wrap a6) (a0.rights.length:Int))) (default:Right)).length}:Right)),duties:=a0.duties,wells:=a0.wells}:District) a1 a2 a3 a4).1) ()with| .inl x_3_0=>false| .inr s_3=>true))))))))
def cU (a0:District)(a1:List Deed)(a2:Int)(a3:Int)(a4:Int)(a5:Right)(a6:Int):Prop:=((iH)∧((!iw)=false→(((!(kA a0 a1 a2 a3)) ||(decide ((a0.rights.length:Int)≥256)))=false→((c5 a0 a1 a2 a3 a4)∧((!(ag a0 a1 a2 a3 a4).2)=false→(((([])++a0.rights).length*88≤eu)∧((([])++a0.rights).length≤a7→((((([])++a0.rights)++([({ name:=a5.name,kind:=3,farm:=a5.farm,reach:=a5.reach,rank:=a5.rank,litres:=a5.litres,since:=a5.since,to:=a5.to,every:=a5.every,length:=a5.length}:Right)])).length*88≤eu)∧(((([])++a0.rights)++([({ name:=a5.name,kind:=3,farm:=a5.farm,reach:=a5.reach,rank:=a5.rank,litres:=a5.litres,since:=a5.since,to:=a5.to,every:=a5.every,length:=a5.length}:Right)])).length≤a7→((c5 ({ name:=a0.name,hours:=a0.hours,tank:=a0.tank,reaches:=a0.reaches,farms:=a0.farms,crops:=a0.crops,rights:=((([])++a0.rights)++([({ name:=a5.name,kind:=3,farm:=a5.farm,reach:=a5.reach,rank:=a5.rank,litres:=a5.litres,since:=a5.since,to:=a5.to,every:=a5.every,length:=a5.length}:Right)])),duties:=a0.duties,wells:=a0.wells}:District) a1 a2 a3 a4)∧(((ag ({ name:=a0.name,hours:=a0.hours,tank:=a0.tank,reaches:=a0.reaches,farms:=a0.farms,crops:=a0.crops,rights:=((([])++a0.rights)++([({ name:=a5.name,kind:=3,farm:=a5.farm,reach:=a5.reach,rank:=a5.rank,litres:=a5.litres,since:=a5.since,to:=a5.to,every:=a5.every,length:=a5.length}:Right)])),duties:=a0.duties,wells:=a0.wells}:District) a1 a2 a3 a4).2=true→(okM (bQ a0 a1 a2 a3 a4 a5) (dB a0 a1 a2 a3 a4 a5) ((ag ({ name:=a0.name,hours:=a0.hours,tank:=a0.tank,reaches:=a0.reaches,farms:=a0.farms,crops:=a0.crops,rights:=((([])++a0.rights)++([({ name:=a5.name,kind:=3,farm:=a5.farm,reach:=a5.reach,rank:=a5.rank,litres:=a5.litres,since:=a5.since,to:=a5.to,every:=a5.every,length:=a5.length}:Right)])),duties:=a0.duties,wells:=a0.wells}:District) a1 a2 a3 a4).1) ()∧(∀ s_0,ct (bQ a0 a1 a2 a3 a4 a5) ((ag ({ name:=a0.name,hours:=a0.hours,tank:=a0.tank,reaches:=a0.reaches,farms:=a0.farms,crops:=a0.crops,rights:=((([])++a0.rights)++([({ name:=a5.name,kind:=3,farm:=a5.farm,reach:=a5.reach,rank:=a5.rank,litres:=a5.litres,since:=a5.since,to:=a5.to,every:=a5.every,length:=a5.length}:Right)])),duties:=a0.duties,wells:=a0.wells}:District) a1 a2 a3 a4).1) ()=.inr s_0→(okM (bD a0 a1 a2 a3 a4 a5) (dC a0 a1 a2 a3 a4 a5) ((ag a0 a1 a2 a3 a4).1) ()∧(∀ s_1,ct (bD a0 a1 a2 a3 a4 a5) ((ag a0 a1 a2 a3 a4).1) ()=.inr s_1→(a0.rights.length≤a7→(((a0.rights.length:Int) ==0)=false→(a0.rights.length≤a7→((a0.rights.length:Int)≠0∧((0≤(Int.tmod (i64.wrap a6) (a0.rights.length:Int))∧(Int.tmod (i64.wrap a6) (a0.rights.length:Int)) < (a0.rights.length:Int))∧(((a0.rights.getD (Int.toNat (Int.tmod (i64.wrap a6) (a0.rights.length:Int))) (default:Right)).kind !=2)=false→(((([])++a0.rights).length*88≤eu)∧((([])++a0.rights).length≤a7→((0≤(Int.tmod (i64.wrap a6) (a0.rights.length:Int))∧(Int.tmod (i64.wrap a6) (a0.rights.length:Int)) < ((([])++a0.rights).length:Int))∧((c5 ({ name:=a0.name,hours:=a0.hours,tank:=a0.tank,reaches:=a0.reaches,farms:=a0.farms,crops:=a0.crops,rights:=((([])++a0.rights).set (Int.toNat (Int.tmod (i64.wrap a6) (a0.rights.length:Int))) ({ name:=((([])++a0.rights).getD (Int.toNat (Int.tmod (i64.wrap a6) (a0.rights.length:Int))) (default:Right)).name,kind:=3,farm:=((([])++a0.rights).getD (Int.toNat (Int.tmod (i64.wrap a6) (a0.rights.length:Int))) (default:Right)).farm,reach:=((([])++a0.rights).getD (Int.toNat (Int.tmod (i64.wrap a6) (a0.rights.length:Int))) (default:Right)).reach,rank:=((([])++a0.rights).getD (Int.toNat (Int.tmod (i64.wrap a6) (a0.rights.length:Int))) (default:Right)).rank,litres:=((([])++a0.rights).getD (Int.toNat (Int.tmod (i64.wrap a6) (a0.rights.length:Int))) (default:Right)).litres,since:=((([])++a0.rights).getD (Int.toNat (Int.tmod (i64.wrap a6) (a0.rights.length:Int))) (default:Right)).since,to:=((([])++a0.rights).getD (Int.toNat (Int.tmod (i64.wrap a6) (a0.rights.length:Int))) (default:Right)).to,every:=((([])++a0.rights).getD (Int.toNat (Int.tmod (i64.wrap a6) (a0.rights.length:Int))) (default:Right)).every,length:=((([])++a0.rights).getD (Int.toNat (Int.tmod (i64.wrap a6) (a0.rights.length:Int))) (default:Right)).length}:Right)),duties:=a0.duties,wells:=a0.wells}:District) a1 a2 a3 a4)∧((!(ag ({ name:=a0.name,hours:=a0.hours,tank:=a0.tank,reaches:=a0.reaches,farms:=a0.farms,crops:=a0.crops,rights:=((([])++a0.rights).set (Int.toNat (Int.tmod (i64.wrap a6) (a0.rights.length:Int))) ({ name:=((([])++a0.rights).getD (Int.toNat (Int.tmod (i64.wrap a6) (a0.rights.length:Int))) (default:Right)).name,kind:=3,farm:=((([])++a0.rights).getD (Int.toNat (Int.tmod (i64.wrap a6) (a0.rights.length:Int))) (default:Right)).farm,reach:=((([])++a0.rights).getD (Int.toNat (Int.tmod (i64.wrap a6) (a0.rights.length:Int))) (default:Right)).reach,rank:=((([])++a0.rights).getD (Int.toNat (Int.tmod (i64.wrap a6) (a0.rights.length:Int))) (default:Right)).rank,litres:=((([])++a0.rights).getD (Int.toNat (Int.tmod (i64.wrap a6) (a0.rights.length:Int))) (default:Right)).litres,since:=((([])++a0.rights).getD (Int.toNat (Int.tmod (i64.wrap a6) (a0.rights.length:Int))) (default:Right)).since,to:=((([])++a0.rights).getD (Int.toNat (Int.tmod (i64.wrap a6) (a0.rights.length:Int))) (default:Right)).to,every:=((([])++a0.rights).getD (Int.toNat (Int.tmod (i64.wrap a6) (a0.rights.length:Int))) (default:Right)).every,length:=((([])++a0.rights).getD (Int.toNat (Int.tmod (i64.wrap a6) (a0.rights.length:Int))) (default:Right)).length}:Right)),duties:=a0.duties,wells:=a0.wells}:District) a1 a2 a3 a4).2)=false→okM (ce a0 a1 a2 a3 a4 a6) (eo a0 a1 a2 a3 a4 a6) ((ag ({ name:=a0.name,hours:=a0.hours,tank:=a0.tank,reaches:=a0.reaches,farms:=a0.farms,crops:=a0.crops,rights:=((([])++a0.rights).set (Int.toNat (Int.tmod (i64.wrap a6) (a0.rights.length:Int))) ({ name:=((([])++a0.rights).getD (Int.toNat (Int.tmod (i64.wrap a6) (a0.rights.length:Int))) (default:Right)).name,kind:=3,farm:=((([])++a0.rights).getD (Int.toNat (Int.tmod (i64.wrap a6) (a0.rights.length:Int))) (default:Right)).farm,reach:=((([])++a0.rights).getD (Int.toNat (Int.tmod (i64.wrap a6) (a0.rights.length:Int))) (default:Right)).reach,rank:=((([])++a0.rights).getD (Int.toNat (Int.tmod (i64.wrap a6) (a0.rights.length:Int))) (default:Right)).rank,litres:=((([])++a0.rights).getD (Int.toNat (Int.tmod (i64.wrap a6) (a0.rights.length:Int))) (default:Right)).litres,since:=((([])++a0.rights).getD (Int.toNat (Int.tmod (i64.wrap a6) (a0.rights.length:Int))) (default:Right)).since,to:=((([])++a0.rights).getD (Int.toNat (Int.tmod (i64.wrap a6) (a0.rights.length:Int))) (default:Right)).to,every:=((([])++a0.rights).getD (Int.toNat (Int.tmod (i64.wrap a6) (a0.rights.length:Int))) (default:Right)).every,length:=((([])++a0.rights).getD (Int.toNat (Int.tmod (i64.wrap a6) (a0.rights.length:Int))) (default:Right)).length}:Right)),duties:=a0.duties,wells:=a0.wells}:District) a1 a2 a3 a4).1) ()))))))))))))))))∧((ag ({ name:=a0.name,hours:=a0.hours,tank:=a0.tank,reaches:=a0.reaches,farms:=a0.farms,crops:=a0.crops,rights:=((([])++a0.rights)++([({ name:=a5.name,kind:=3,farm:=a5.farm,reach:=a5.reach,rank:=a5.rank,litres:=a5.litres,since:=a5.since,to:=a5.to,every:=a5.every,length:=a5.length}:Right)])),duties:=a0.duties,wells:=a0.wells}:District) a1 a2 a3 a4).2=false→(a0.rights.length≤a7→(((a0.rights.length:Int) ==0)=false→(a0.rights.length≤a7→((a0.rights.length:Int)≠0∧((0≤(Int.tmod (i64.wrap a6) (a0.rights.length:Int))∧(Int.tmod (i64.wrap a6) (a0.rights.length:Int)) < (a0.rights.length:Int))∧(((a0.rights.getD (Int.toNat (Int.tmod (i64.wrap a6) (a0.rights.length:Int))) (default:Right)).kind !=2)=false→(((([])++a0.rights).length*88≤eu)∧((([])++a0.rights).length≤a7→((0≤(Int.tmod (i64.wrap a6) (a0.rights.length:Int))∧(Int.tmod (i64.wrap a6) (a0.rights.length:Int)) < ((([])++a0.rights).length:Int))∧((c5 ({ name:=a0.name,hours:=a0.hours,tank:=a0.tank,reaches:=a0.reaches,farms:=a0.farms,crops:=a0.crops,rights:=((([])++a0.rights).set (Int.toNat (Int.tmod (i64.wrap a6) (a0.rights.length:Int))) ({ name:=((([])++a0.rights).getD (Int.toNat (Int.tmod (i64.wrap a6) (a0.rights.length:Int))) (default:Right)).name,kind:=3,farm:=((([])++a0.rights).getD (Int.toNat (Int.tmod (i64.wrap a6) (a0.rights.length:Int))) (default:Right)).farm,reach:=((([])++a0.rights).getD (Int.toNat (Int.tmod (i64.wrap a6) (a0.rights.length:Int))) (default:Right)).reach,rank:=((([])++a0.rights).getD (Int.toNat (Int.tmod (i64.wrap a6) (a0.rights.length:Int))) (default:Right)).rank,litres:=((([])++a0.rights).getD (Int.toNat (Int.tmod (i64.wrap a6) (a0.rights.length:Int))) (default:Right)).litres,since:=((([])++a0.rights).getD (Int.toNat (Int.tmod (i64.wrap a6) (a0.rights.length:Int))) (default:Right)).since,to:=((([])++a0.rights).getD (Int.toNat (Int.tmod (i64.wrap a6) (a0.rights.length:Int))) (default:Right)).to,every:=((([])++a0.rights).getD (Int.toNat (Int.tmod (i64.wrap a6) (a0.rights.length:Int))) (default:Right)).every,length:=((([])++a0.rights).getD (Int.toNat (Int.tmod (i64.wrap a6) (a0.rights.length:Int))) (default:Right)).length}:Right)),duties:=a0.duties,wells:=a0.wells}:District) a1 a2 a3 a4)∧((!(ag ({ name:=a0.name,hours:=a0.hours,tank:=a0.tank,reaches:=a0.reaches,farms:=a0.farms,crops:=a0.crops,rights:=((([])++a0.rights).set (Int.toNat (Int.tmod (i64.wrap a6) (a0.rights.length:Int))) ({ name:=((([])++a0.rights).getD (Int.toNat (Int.tmod (i64.wrap a6) (a0.rights.length:Int))) (default:Right)).name,kind:=3,farm:=((([])++a0.rights).getD (Int.toNat (Int.tmod (i64.wrap a6) (a0.rights.length:Int))) (default:Right)).farm,reach:=((([])++a0.rights).getD (Int.toNat (Int.tmod (i64.wrap a6) (a0.rights.length:Int))) (default:Right)).reach,rank:=((([])++a0.rights).getD (Int.toNat (Int.tmod (i64.wrap a6) (a0.rights.length:Int))) (default:Right)).rank,litres:=((([])++a0.rights).getD (Int.toNat (Int.tmod (i64.wrap a6) (a0.rights.length:Int))) (default:Right)).litres,since:=((([])++a0.rights).getD (Int.toNat (Int.tmod (i64.wrap a6) (a0.rights.length:Int))) (default:Right)).since,to:=((([])++a0.rights).getD (Int.toNat (Int.tmod (i64.wrap a6) (a0.rights.length:Int))) (default:Right)).to,every:=((([])++a0.rights).getD (Int.toNat (Int.tmod (i64.wrap a6) (a0.rights.length:Int))) (default:Right)).every,length:=((([])++a0.rights).getD (Int.toNat (Int.tmod (i64.wrap a6) (a0.rights.length:Int))) (default:Right)).length}:Right)),duties:=a0.duties,wells:=a0.wells}:District) a1 a2 a3 a4).2)=false→okM (cg a0 a1 a2 a3 a4 a6) (er a0 a1 a2 a3 a4 a6) ((ag ({ name:=a0.name,hours:=a0.hours,tank:=a0.tank,reaches:=a0.reaches,farms:=a0.farms,crops:=a0.crops,rights:=((([])++a0.rights).set (Int.toNat (Int.tmod (i64.wrap a6) (a0.rights.length:Int))) ({ name:=((([])++a0.rights).getD (Int.toNat (Int.tmod (i64.wrap a6) (a0.rights.length:Int))) (default:Right)).name,kind:=3,farm:=((([])++a0.rights).getD (Int.toNat (Int.tmod (i64.wrap a6) (a0.rights.length:Int))) (default:Right)).farm,reach:=((([])++a0.rights).getD (Int.toNat (Int.tmod (i64.wrap a6) (a0.rights.length:Int))) (default:Right)).reach,rank:=((([])++a0.rights).getD (Int.toNat (Int.tmod (i64.wrap a6) (a0.rights.length:Int))) (default:Right)).rank,litres:=((([])++a0.rights).getD (Int.toNat (Int.tmod (i64.wrap a6) (a0.rights.length:Int))) (default:Right)).litres,since:=((([])++a0.rights).getD (Int.toNat (Int.tmod (i64.wrap a6) (a0.rights.length:Int))) (default:Right)).since,to:=((([])++a0.rights).getD (Int.toNat (Int.tmod (i64.wrap a6) (a0.rights.length:Int))) (default:Right)).to,every:=((([])++a0.rights).getD (Int.toNat (Int.tmod (i64.wrap a6) (a0.rights.length:Int))) (default:Right)).every,length:=((([])++a0.rights).getD (Int.toNat (Int.tmod (i64.wrap a6) (a0.rights.length:Int))) (default:Right)).length}:Right)),duties:=a0.duties,wells:=a0.wells}:District) a1 a2 a3 a4).1) ())))))))))))))))))))))))
@[go_sem] def gC:List SV→Option Con:=(pD .district fun a0=>(pR .deed fun a1=>(pI fun a2=>(pI fun a3=>(pI fun a4=>(pD .right fun a5=>(pW fun a6=>(pE (.det (cU a0 a1 a2 a3 a4 a5 a6) (.v (.bool (cP a0 a1 a2 a3 a4 a5 a6))))))))))))
theorem Gy {l0:List Nat}(a0:JL l0){p:Prop}(h:JL l0→p:=by intro ja;simp only[go_sem,Nat.reduceBEq,Nat.reduceLeDiff,Nat.reduceLT,decide_true,Nat.reduceAdd,Nat.reduceSub,Nat.reduceMul,Int.reduceLE,Int.reduceLT,Int.reduceToNat,Int.reduceNeg,reduceCtorEq,hs0,List.not_mem_nil];all_goals exact lj ja):p:=h a0
theorem NX {p:Prop}(h:p:=by simp only[go_sem,Nat.reduceBEq,Nat.reduceLeDiff,Nat.reduceLT,decide_true,Nat.reduceAdd,Nat.reduceSub,Nat.reduceMul,Int.reduceLE,Int.reduceLT,Int.reduceToNat,Int.reduceNeg,reduceCtorEq,hs0];all_goals exact cl):p:=h
theorem oA:FnOk Tryz.prog 7 gC:=by
 have hG:ConsOk Tryz.prog (mkG [(10,ub),(11,fun l=>vt (dH [.st .district,.sl .deed,.o,.o] l)),(25,fun l=>pt (dH [.st .district,.sl .deed,.o,.o,.o] l))] []):=ay (cgc zc (cgc (A7.norm [.st .district,.sl .deed,.o,.o]) (cgc (u0.norm [.st .district,.sl .deed,.o,.o,.o]) cg0))) cg0;refine ba [.o] mixed an hG (fn:=Tryz.f7) (c:=ae Tryz.f7) kr kr kr kr (aW fun a0=>(ef fun a1=>(bY fun a2=>(bY fun a3=>(bY fun a4=>(aW fun a5=>(Qa fun a6=>(aG (fun hp=>?_)))))))));dsimp only[aF]at hp;unfold cU at hp;rcases Bool.eq_false_or_eq_true ((ag ({ name:=a0.name,hours:=a0.hours,tank:=a0.tank,reaches:=a0.reaches,farms:=a0.farms,crops:=a0.crops,rights:=((([])++a0.rights)++([({ name:=a5.name,kind:=3,farm:=a5.farm,reach:=a5.reach,rank:=a5.rank,litres:=a5.litres,since:=a5.since,to:=a5.to,every:=a5.every,length:=a5.length}:Right)])),duties:=a0.duties,wells:=a0.wells}:District) a1 a2 a3 a4).2)with hs0|hs0
 ·have hsp:True:=trivial;refine⟨nbl rfl,(fun id st=>bif Nat.beq id 0 then some (LCM (τ:=Block×Bool) (ρ:=Unit) (σ:=Unit) 9 [] [0,1,2,3,4,5,6,7,8] (fun left_0 cur_0 s_0=>⟨[(1,.rs .deed a1),(2,.v (.int .i64 a2)),(3,.v (.int .i64 a3)),(4,.v (.int .i64 a4)),(6,.v (.int .u16 a6)),(7,.ptr 0 0),(12,.ptr 1 0),(15,.os 2),(18,.os 7),(73,.ptr 8 0)],[.cells (cellsOf .district a0),.cells [.v (.string a5.name),.v (.int .i64 3),.v (.int .i64 a5.farm),.v (.int .i64 a5.reach),.v (.int .i64 a5.rank),.v (.int .i64 a5.litres),.v (.int .i64 a5.since),.v (.int .i64 a5.to),.v (.int .i64 a5.every),.v (.int .i64 a5.length)],.mp .block .bool ((ag a0 a1 a2 a3 a4).1) none,.dead,.dead,.dead,.dead,.mp .block .bool ((ag ({ name:=a0.name,hours:=a0.hours,tank:=a0.tank,reaches:=a0.reaches,farms:=a0.farms,crops:=a0.crops,rights:=((([])++a0.rights)++([({ name:=a5.name,kind:=3,farm:=a5.farm,reach:=a5.reach,rank:=a5.rank,litres:=a5.litres,since:=a5.since,to:=a5.to,every:=a5.every,length:=a5.length}:Right)])),duties:=a0.duties,wells:=a0.wells}:District) a1 a2 a3 a4).1) (some (8,none)),.mi (some 7) (((ag ({ name:=a0.name,hours:=a0.hours,tank:=a0.tank,reaches:=a0.reaches,farms:=a0.farms,crops:=a0.crops,rights:=((([])++a0.rights)++([({ name:=a5.name,kind:=3,farm:=a5.farm,reach:=a5.reach,rank:=a5.rank,litres:=a5.litres,since:=a5.since,to:=a5.to,every:=a5.every,length:=a5.length}:Right)])),duties:=a0.duties,wells:=a0.wells}:District) a1 a2 a3 a4).1).length) left_0 cur_0]⟩) (bQ a0 a1 a2 a3 a4 a5) (dB a0 a1 a2 a3 a4 a5) ((ag ({ name:=a0.name,hours:=a0.hours,tank:=a0.tank,reaches:=a0.reaches,farms:=a0.farms,crops:=a0.crops,rights:=((([])++a0.rights)++([({ name:=a5.name,kind:=3,farm:=a5.farm,reach:=a5.reach,rank:=a5.rank,litres:=a5.litres,since:=a5.since,to:=a5.to,every:=a5.every,length:=a5.length}:Right)])),duties:=a0.duties,wells:=a0.wells}:District) a1 a2 a3 a4).1) () (fun _=>.ret) (fun x_0_0=>⟨[(14,.v (.bool false))],[.dead,.dead,.dead,.dead,.dead,.dead,.dead,.dead,.dead]⟩) (fun s_0=>⟨[(1,.rs .deed a1),(2,.v (.int .i64 a2)),(3,.v (.int .i64 a3)),(4,.v (.int .i64 a4)),(6,.v (.int .u16 a6)),(7,.ptr 0 0),(12,.ptr 1 0),(15,.os 2),(18,.os 7)],[.cells (cellsOf .district a0),.cells [.v (.string a5.name),.v (.int .i64 3),.v (.int .i64 a5.farm),.v (.int .i64 a5.reach),.v (.int .i64 a5.rank),.v (.int .i64 a5.litres),.v (.int .i64 a5.since),.v (.int .i64 a5.to),.v (.int .i64 a5.every),.v (.int .i64 a5.length)],.mp .block .bool ((ag a0 a1 a2 a3 a4).1) none,.dead,.dead,.dead,.dead,.mp .block .bool ((ag ({ name:=a0.name,hours:=a0.hours,tank:=a0.tank,reaches:=a0.reaches,farms:=a0.farms,crops:=a0.crops,rights:=((([])++a0.rights)++([({ name:=a5.name,kind:=3,farm:=a5.farm,reach:=a5.reach,rank:=a5.rank,litres:=a5.litres,since:=a5.since,to:=a5.to,every:=a5.every,length:=a5.length}:Right)])),duties:=a0.duties,wells:=a0.wells}:District) a1 a2 a3 a4).1) none,.dead]⟩) st)else bif Nat.beq id 2 then some (LCM (τ:=Block×Bool) (ρ:=Unit) (σ:=Unit) 10 [] [0,1,2,3,4,5,6,7,8,9] (fun left_1 cur_1 s_1=>⟨[(1,.rs .deed a1),(2,.v (.int .i64 a2)),(3,.v (.int .i64 a3)),(4,.v (.int .i64 a4)),(6,.v (.int .u16 a6)),(7,.ptr 0 0),(12,.ptr 1 0),(15,.os 2),(18,.os 7),(83,.ptr 9 0)],[.cells (cellsOf .district a0),.cells [.v (.string a5.name),.v (.int .i64 3),.v (.int .i64 a5.farm),.v (.int .i64 a5.reach),.v (.int .i64 a5.rank),.v (.int .i64 a5.litres),.v (.int .i64 a5.since),.v (.int .i64 a5.to),.v (.int .i64 a5.every),.v (.int .i64 a5.length)],.mp .block .bool ((ag a0 a1 a2 a3 a4).1) (some (9,none)),.dead,.dead,.dead,.dead,.mp .block .bool ((ag ({ name:=a0.name,hours:=a0.hours,tank:=a0.tank,reaches:=a0.reaches,farms:=a0.farms,crops:=a0.crops,rights:=((([])++a0.rights)++([({ name:=a5.name,kind:=3,farm:=a5.farm,reach:=a5.reach,rank:=a5.rank,litres:=a5.litres,since:=a5.since,to:=a5.to,every:=a5.every,length:=a5.length}:Right)])),duties:=a0.duties,wells:=a0.wells}:District) a1 a2 a3 a4).1) none,.dead,.mi (some 2) (((ag a0 a1 a2 a3 a4).1).length) left_1 cur_1]⟩) (bD a0 a1 a2 a3 a4 a5) (dC a0 a1 a2 a3 a4 a5) ((ag a0 a1 a2 a3 a4).1) () (fun _=>.ret) (fun x_1_0=>⟨[(14,.v (.bool false))],[.dead,.dead,.dead,.dead,.dead,.dead,.dead,.dead,.dead,.dead]⟩) (fun s_1=>⟨[(1,.rs .deed a1),(2,.v (.int .i64 a2)),(3,.v (.int .i64 a3)),(4,.v (.int .i64 a4)),(6,.v (.int .u16 a6)),(7,.ptr 0 0),(15,.os 2)],[.cells (cellsOf .district a0),.dead,.mp .block .bool ((ag a0 a1 a2 a3 a4).1) none,.dead,.dead,.dead,.dead,.dead,.dead,.dead]⟩) st)else bif Nat.beq id 4 then some (LCM (τ:=Block×Bool) (ρ:=Unit) (σ:=Unit) 14 [] [0,1,2,3,4,5,6,7,8,9,10,11,12,13] (fun left_2 cur_2 s_2=>⟨[(15,.os 2),(139,.ptr 13 0)],[.dead,.dead,.mp .block .bool ((ag a0 a1 a2 a3 a4).1) none,.dead,.dead,.dead,.dead,.dead,.dead,.dead,.dead,.dead,.mp .block .bool ((ag ({ name:=a0.name,hours:=a0.hours,tank:=a0.tank,reaches:=a0.reaches,farms:=a0.farms,crops:=a0.crops,rights:=((([])++a0.rights).set (Int.toNat (Int.tmod (i64.wrap a6) (a0.rights.length:Int))) ({ name:=((([])++a0.rights).getD (Int.toNat (Int.tmod (i64.wrap a6) (a0.rights.length:Int))) (default:Right)).name,kind:=3,farm:=((([])++a0.rights).getD (Int.toNat (Int.tmod (i64.wrap a6) (a0.rights.length:Int))) (default:Right)).farm,reach:=((([])++a0.rights).getD (Int.toNat (Int.tmod (i64.wrap a6) (a0.rights.length:Int))) (default:Right)).reach,rank:=((([])++a0.rights).getD (Int.toNat (Int.tmod (i64.wrap a6) (a0.rights.length:Int))) (default:Right)).rank,litres:=((([])++a0.rights).getD (Int.toNat (Int.tmod (i64.wrap a6) (a0.rights.length:Int))) (default:Right)).litres,since:=((([])++a0.rights).getD (Int.toNat (Int.tmod (i64.wrap a6) (a0.rights.length:Int))) (default:Right)).since,to:=((([])++a0.rights).getD (Int.toNat (Int.tmod (i64.wrap a6) (a0.rights.length:Int))) (default:Right)).to,every:=((([])++a0.rights).getD (Int.toNat (Int.tmod (i64.wrap a6) (a0.rights.length:Int))) (default:Right)).every,length:=((([])++a0.rights).getD (Int.toNat (Int.tmod (i64.wrap a6) (a0.rights.length:Int))) (default:Right)).length}:Right)),duties:=a0.duties,wells:=a0.wells}:District) a1 a2 a3 a4).1) (some (13,none)),.mi (some 12) (((ag ({ name:=a0.name,hours:=a0.hours,tank:=a0.tank,reaches:=a0.reaches,farms:=a0.farms,crops:=a0.crops,rights:=((([])++a0.rights).set (Int.toNat (Int.tmod (i64.wrap a6) (a0.rights.length:Int))) ({ name:=((([])++a0.rights).getD (Int.toNat (Int.tmod (i64.wrap a6) (a0.rights.length:Int))) (default:Right)).name,kind:=3,farm:=((([])++a0.rights).getD (Int.toNat (Int.tmod (i64.wrap a6) (a0.rights.length:Int))) (default:Right)).farm,reach:=((([])++a0.rights).getD (Int.toNat (Int.tmod (i64.wrap a6) (a0.rights.length:Int))) (default:Right)).reach,rank:=((([])++a0.rights).getD (Int.toNat (Int.tmod (i64.wrap a6) (a0.rights.length:Int))) (default:Right)).rank,litres:=((([])++a0.rights).getD (Int.toNat (Int.tmod (i64.wrap a6) (a0.rights.length:Int))) (default:Right)).litres,since:=((([])++a0.rights).getD (Int.toNat (Int.tmod (i64.wrap a6) (a0.rights.length:Int))) (default:Right)).since,to:=((([])++a0.rights).getD (Int.toNat (Int.tmod (i64.wrap a6) (a0.rights.length:Int))) (default:Right)).to,every:=((([])++a0.rights).getD (Int.toNat (Int.tmod (i64.wrap a6) (a0.rights.length:Int))) (default:Right)).every,length:=((([])++a0.rights).getD (Int.toNat (Int.tmod (i64.wrap a6) (a0.rights.length:Int))) (default:Right)).length}:Right)),duties:=a0.duties,wells:=a0.wells}:District) a1 a2 a3 a4).1).length) left_2 cur_2]⟩) (ce a0 a1 a2 a3 a4 a6) (eo a0 a1 a2 a3 a4 a6) ((ag ({ name:=a0.name,hours:=a0.hours,tank:=a0.tank,reaches:=a0.reaches,farms:=a0.farms,crops:=a0.crops,rights:=((([])++a0.rights).set (Int.toNat (Int.tmod (i64.wrap a6) (a0.rights.length:Int))) ({ name:=((([])++a0.rights).getD (Int.toNat (Int.tmod (i64.wrap a6) (a0.rights.length:Int))) (default:Right)).name,kind:=3,farm:=((([])++a0.rights).getD (Int.toNat (Int.tmod (i64.wrap a6) (a0.rights.length:Int))) (default:Right)).farm,reach:=((([])++a0.rights).getD (Int.toNat (Int.tmod (i64.wrap a6) (a0.rights.length:Int))) (default:Right)).reach,rank:=((([])++a0.rights).getD (Int.toNat (Int.tmod (i64.wrap a6) (a0.rights.length:Int))) (default:Right)).rank,litres:=((([])++a0.rights).getD (Int.toNat (Int.tmod (i64.wrap a6) (a0.rights.length:Int))) (default:Right)).litres,since:=((([])++a0.rights).getD (Int.toNat (Int.tmod (i64.wrap a6) (a0.rights.length:Int))) (default:Right)).since,to:=((([])++a0.rights).getD (Int.toNat (Int.tmod (i64.wrap a6) (a0.rights.length:Int))) (default:Right)).to,every:=((([])++a0.rights).getD (Int.toNat (Int.tmod (i64.wrap a6) (a0.rights.length:Int))) (default:Right)).every,length:=((([])++a0.rights).getD (Int.toNat (Int.tmod (i64.wrap a6) (a0.rights.length:Int))) (default:Right)).length}:Right)),duties:=a0.duties,wells:=a0.wells}:District) a1 a2 a3 a4).1) () (fun _=>.ret) (fun x_2_0=>⟨[(14,.v (.bool false))],[.dead,.dead,.dead,.dead,.dead,.dead,.dead,.dead,.dead,.dead,.dead,.dead,.dead,.dead]⟩) (fun s_2=>⟨[],[.dead,.dead,.dead,.dead,.dead,.dead,.dead,.dead,.dead,.dead,.dead,.dead,.dead,.dead]⟩) st)else none),?_,?_⟩
  ·unfold ae Tryz.f7;simp only[am,true_and,and_true]
   repeat' with_reducible apply And.intro
   all_goals try exact Dm fun _=>rfl
   ·refine tE (cF .block,cF .bool) 8 mixed an hG kr (fun _=>rfl) fun left_0 cur_0 s_0 hp0=>⟨L0,ai _,?_⟩
    ·by_cases hl0:left_0=[]
     ·subst hl0;exact Gy (jl [0,1,2,3,4,5,6,7,8])
     ·simp only[go_sem,Nat.reduceBEq,Nat.reduceLeDiff,Nat.reduceLT,decide_true,Nat.reduceAdd,Nat.reduceSub,Nat.reduceMul,Int.reduceLE,Int.reduceLT,Int.reduceToNat,Int.reduceNeg,reduceCtorEq,hs0,hl0];intro j hj0;obtain⟨hlt0,hq0⟩:=hp0 j hj0;unfold dB at hq0;all_goals exact lj (jl [0,1,2,3,4,5,6,7,8])
   ·refine tE (cF .block,cF .bool) 9 mixed an hG kr (fun _=>rfl) fun left_1 cur_1 s_1 hp1=>⟨L0,ai _,?_⟩
    ·by_cases hl1:left_1=[]
     ·subst hl1;exact Gy (jl [0,1,2,3,4,5,6,7,8,9])
     ·simp only[go_sem,Nat.reduceBEq,Nat.reduceLeDiff,Nat.reduceLT,decide_true,Nat.reduceAdd,Nat.reduceSub,Nat.reduceMul,Int.reduceLE,Int.reduceLT,Int.reduceToNat,Int.reduceNeg,reduceCtorEq,hs0,hl1];intro j hj1;obtain⟨hlt1,hq1⟩:=hp1 j hj1;unfold dC at hq1;all_goals exact lj (jl [0,1,2,3,4,5,6,7,8,9])
   ·refine tE (cF .block,cF .bool) 13 mixed an hG kr (fun _=>rfl) fun left_2 cur_2 s_2 hp2=>⟨L0,ai _,?_⟩
    ·by_cases hl2:left_2=[]
     ·subst hl2;exact Gy (jl [0,1,2,3,4,5,6,7,8,9,10,11,12,13])
     ·simp only[go_sem,Nat.reduceBEq,Nat.reduceLeDiff,Nat.reduceLT,decide_true,Nat.reduceAdd,Nat.reduceSub,Nat.reduceMul,Int.reduceLE,Int.reduceLT,Int.reduceToNat,Int.reduceNeg,reduceCtorEq,hs0,hl2];intro j hj2;obtain⟨hlt2,hq2⟩:=hp2 j hj2;unfold eo at hq2;all_goals exact lj (jl [0,1,2,3,4,5,6,7,8,9,10,11,12,13])
  ·unfold ae Tryz.f7;try unfold cP
   exact NX
 ·have hsp:True:=trivial;refine⟨nbl rfl,(fun id st=>bif Nat.beq id 4 then some (LCM (τ:=Block×Bool) (ρ:=Unit) (σ:=Unit) 12 [] [0,1,2,3,4,5,6,7,8,9,10,11] (fun left_3 cur_3 s_3=>⟨[(15,.os 2),(139,.ptr 11 0)],[.dead,.dead,.mp .block .bool ((ag a0 a1 a2 a3 a4).1) none,.dead,.dead,.dead,.dead,.dead,.dead,.dead,.mp .block .bool ((ag ({ name:=a0.name,hours:=a0.hours,tank:=a0.tank,reaches:=a0.reaches,farms:=a0.farms,crops:=a0.crops,rights:=((([])++a0.rights).set (Int.toNat (Int.tmod (i64.wrap a6) (a0.rights.length:Int))) ({ name:=((([])++a0.rights).getD (Int.toNat (Int.tmod (i64.wrap a6) (a0.rights.length:Int))) (default:Right)).name,kind:=3,farm:=((([])++a0.rights).getD (Int.toNat (Int.tmod (i64.wrap a6) (a0.rights.length:Int))) (default:Right)).farm,reach:=((([])++a0.rights).getD (Int.toNat (Int.tmod (i64.wrap a6) (a0.rights.length:Int))) (default:Right)).reach,rank:=((([])++a0.rights).getD (Int.toNat (Int.tmod (i64.wrap a6) (a0.rights.length:Int))) (default:Right)).rank,litres:=((([])++a0.rights).getD (Int.toNat (Int.tmod (i64.wrap a6) (a0.rights.length:Int))) (default:Right)).litres,since:=((([])++a0.rights).getD (Int.toNat (Int.tmod (i64.wrap a6) (a0.rights.length:Int))) (default:Right)).since,to:=((([])++a0.rights).getD (Int.toNat (Int.tmod (i64.wrap a6) (a0.rights.length:Int))) (default:Right)).to,every:=((([])++a0.rights).getD (Int.toNat (Int.tmod (i64.wrap a6) (a0.rights.length:Int))) (default:Right)).every,length:=((([])++a0.rights).getD (Int.toNat (Int.tmod (i64.wrap a6) (a0.rights.length:Int))) (default:Right)).length}:Right)),duties:=a0.duties,wells:=a0.wells}:District) a1 a2 a3 a4).1) (some (11,none)),.mi (some 10) (((ag ({ name:=a0.name,hours:=a0.hours,tank:=a0.tank,reaches:=a0.reaches,farms:=a0.farms,crops:=a0.crops,rights:=((([])++a0.rights).set (Int.toNat (Int.tmod (i64.wrap a6) (a0.rights.length:Int))) ({ name:=((([])++a0.rights).getD (Int.toNat (Int.tmod (i64.wrap a6) (a0.rights.length:Int))) (default:Right)).name,kind:=3,farm:=((([])++a0.rights).getD (Int.toNat (Int.tmod (i64.wrap a6) (a0.rights.length:Int))) (default:Right)).farm,reach:=((([])++a0.rights).getD (Int.toNat (Int.tmod (i64.wrap a6) (a0.rights.length:Int))) (default:Right)).reach,rank:=((([])++a0.rights).getD (Int.toNat (Int.tmod (i64.wrap a6) (a0.rights.length:Int))) (default:Right)).rank,litres:=((([])++a0.rights).getD (Int.toNat (Int.tmod (i64.wrap a6) (a0.rights.length:Int))) (default:Right)).litres,since:=((([])++a0.rights).getD (Int.toNat (Int.tmod (i64.wrap a6) (a0.rights.length:Int))) (default:Right)).since,to:=((([])++a0.rights).getD (Int.toNat (Int.tmod (i64.wrap a6) (a0.rights.length:Int))) (default:Right)).to,every:=((([])++a0.rights).getD (Int.toNat (Int.tmod (i64.wrap a6) (a0.rights.length:Int))) (default:Right)).every,length:=((([])++a0.rights).getD (Int.toNat (Int.tmod (i64.wrap a6) (a0.rights.length:Int))) (default:Right)).length}:Right)),duties:=a0.duties,wells:=a0.wells}:District) a1 a2 a3 a4).1).length) left_3 cur_3]⟩) (cg a0 a1 a2 a3 a4 a6) (er a0 a1 a2 a3 a4 a6) ((ag ({ name:=a0.name,hours:=a0.hours,tank:=a0.tank,reaches:=a0.reaches,farms:=a0.farms,crops:=a0.crops,rights:=((([])++a0.rights).set (Int.toNat (Int.tmod (i64.wrap a6) (a0.rights.length:Int))) ({ name:=((([])++a0.rights).getD (Int.toNat (Int.tmod (i64.wrap a6) (a0.rights.length:Int))) (default:Right)).name,kind:=3,farm:=((([])++a0.rights).getD (Int.toNat (Int.tmod (i64.wrap a6) (a0.rights.length:Int))) (default:Right)).farm,reach:=((([])++a0.rights).getD (Int.toNat (Int.tmod (i64.wrap a6) (a0.rights.length:Int))) (default:Right)).reach,rank:=((([])++a0.rights).getD (Int.toNat (Int.tmod (i64.wrap a6) (a0.rights.length:Int))) (default:Right)).rank,litres:=((([])++a0.rights).getD (Int.toNat (Int.tmod (i64.wrap a6) (a0.rights.length:Int))) (default:Right)).litres,since:=((([])++a0.rights).getD (Int.toNat (Int.tmod (i64.wrap a6) (a0.rights.length:Int))) (default:Right)).since,to:=((([])++a0.rights).getD (Int.toNat (Int.tmod (i64.wrap a6) (a0.rights.length:Int))) (default:Right)).to,every:=((([])++a0.rights).getD (Int.toNat (Int.tmod (i64.wrap a6) (a0.rights.length:Int))) (default:Right)).every,length:=((([])++a0.rights).getD (Int.toNat (Int.tmod (i64.wrap a6) (a0.rights.length:Int))) (default:Right)).length}:Right)),duties:=a0.duties,wells:=a0.wells}:District) a1 a2 a3 a4).1) () (fun _=>.ret) (fun x_3_0=>⟨[(14,.v (.bool false))],[.dead,.dead,.dead,.dead,.dead,.dead,.dead,.dead,.dead,.dead,.dead,.dead]⟩) (fun s_3=>⟨[],[.dead,.dead,.dead,.dead,.dead,.dead,.dead,.dead,.dead,.dead,.dead,.dead]⟩) st)else none),?_,?_⟩
  ·unfold ae Tryz.f7;simp only[am,true_and,and_true]
   repeat' with_reducible apply And.intro
   all_goals try exact Dm fun _=>rfl
   ·refine tE (cF .block,cF .bool) 11 mixed an hG kr (fun _=>rfl) fun left_3 cur_3 s_3 hp3=>⟨L0,ai _,?_⟩
    ·by_cases hl3:left_3=[]
     ·subst hl3;exact Gy (jl [0,1,2,3,4,5,6,7,8,9,10,11])
     ·simp only[go_sem,Nat.reduceBEq,Nat.reduceLeDiff,Nat.reduceLT,decide_true,Nat.reduceAdd,Nat.reduceSub,Nat.reduceMul,Int.reduceLE,Int.reduceLT,Int.reduceToNat,Int.reduceNeg,reduceCtorEq,hs0,hl3];intro j hj3;obtain⟨hlt3,hq3⟩:=hp3 j hj3;unfold er at hq3;all_goals exact lj (jl [0,1,2,3,4,5,6,7,8,9,10,11])
  ·unfold ae Tryz.f7;try unfold cP
   exact NX
def je (a0:District)(a5:Right):District:=({ name:=a0.name,hours:=a0.hours,tank:=a0.tank,reaches:=a0.reaches,farms:=a0.farms,crops:=a0.crops,rights:=((([])++a0.rights)++([({ name:=a5.name,kind:=3,farm:=a5.farm,reach:=a5.reach,rank:=a5.rank,litres:=a5.litres,since:=a5.since,to:=a5.to,every:=a5.every,length:=a5.length}:Right)])),duties:=a0.duties,wells:=a0.wells}:District)
def et (a0:District)(a6:Int):District:=({ name:=a0.name,hours:=a0.hours,tank:=a0.tank,reaches:=a0.reaches,farms:=a0.farms,crops:=a0.crops,rights:=((([])++a0.rights).set (Int.toNat (Int.tmod (i64.wrap a6) (a0.rights.length:Int))) ({ name:=((([])++a0.rights).getD (Int.toNat (Int.tmod (i64.wrap a6) (a0.rights.length:Int))) (default:Right)).name,kind:=3,farm:=((([])++a0.rights).getD (Int.toNat (Int.tmod (i64.wrap a6) (a0.rights.length:Int))) (default:Right)).farm,reach:=((([])++a0.rights).getD (Int.toNat (Int.tmod (i64.wrap a6) (a0.rights.length:Int))) (default:Right)).reach,rank:=((([])++a0.rights).getD (Int.toNat (Int.tmod (i64.wrap a6) (a0.rights.length:Int))) (default:Right)).rank,litres:=((([])++a0.rights).getD (Int.toNat (Int.tmod (i64.wrap a6) (a0.rights.length:Int))) (default:Right)).litres,since:=((([])++a0.rights).getD (Int.toNat (Int.tmod (i64.wrap a6) (a0.rights.length:Int))) (default:Right)).since,to:=((([])++a0.rights).getD (Int.toNat (Int.tmod (i64.wrap a6) (a0.rights.length:Int))) (default:Right)).to,every:=((([])++a0.rights).getD (Int.toNat (Int.tmod (i64.wrap a6) (a0.rights.length:Int))) (default:Right)).every,length:=((([])++a0.rights).getD (Int.toNat (Int.tmod (i64.wrap a6) (a0.rights.length:Int))) (default:Right)).length}:Right)),duties:=a0.duties,wells:=a0.wells}:District)
theorem mT (a0:District)(a1:List Deed)(a2:Int)(a3:Int)(a4:Int)(a5:Right)(k_1:Block×Bool)(s_1:Unit):bD a0 a1 a2 a3 a4 a5 k_1 s_1=(bif((!(bF .block .bool ((ag (je a0 a5) a1 a2 a3 a4).1) k_1.1))&&(k_1.1.farm !=a5.farm))then .inl ()else .inr ()):=by
 unfold bD je;try rfl
theorem o8 (a0:District)(a1:List Deed)(a2:Int)(a3:Int)(a4:Int)(a5:Right)(a6:Int):cP a0 a1 a2 a3 a4 a5 a6=(bif(!iw)then false else(bif((!(kA a0 a1 a2 a3)) ||(decide ((a0.rights.length:Int)≥256)))then true else(bif(!(ag a0 a1 a2 a3 a4).2)then true else(bif(ag (je a0 a5) a1 a2 a3 a4).2 then(match ct (bQ a0 a1 a2 a3 a4 a5) ((ag (je a0 a5) a1 a2 a3 a4).1) ()with| .inl x_0_0=>false| .inr s_0=>(match ct (bD a0 a1 a2 a3 a4 a5) ((ag a0 a1 a2 a3 a4).1) ()with| .inl x_1_0=>false| .inr s_1=>(bif((a0.rights.length:Int) ==0)then true else(bif((a0.rights.getD (Int.toNat (Int.tmod (i64.wrap a6) (a0.rights.length:Int))) (default:Right)).kind !=2)then true else(bif(!(ag (et a0 a6) a1 a2 a3 a4).2)then false else(match ct (ce a0 a1 a2 a3 a4 a6) ((ag (et a0 a6) a1 a2 a3 a4).1) ()with| .inl x_2_0=>false| .inr s_2=>true))))))else(bif((a0.rights.length:Int) ==0)then true else(bif((a0.rights.getD (Int.toNat (Int.tmod (i64.wrap a6) (a0.rights.length:Int))) (default:Right)).kind !=2)then true else(bif(!(ag (et a0 a6) a1 a2 a3 a4).2)then false else(match ct (cg a0 a1 a2 a3 a4 a6) ((ag (et a0 a6) a1 a2 a3 a4).1) ()with| .inl x_3_0=>false| .inr s_3=>true)))))))):=by
 unfold cP je et;try rfl
theorem nN (a0:District)(a1:List Deed)(a2:Int)(a3:Int)(a4:Int)(a5:Right)(a6:Int):cU a0 a1 a2 a3 a4 a5 a6=((iH)∧((!iw)=false→(((!(kA a0 a1 a2 a3)) ||(decide ((a0.rights.length:Int)≥256)))=false→((c5 a0 a1 a2 a3 a4)∧((!(ag a0 a1 a2 a3 a4).2)=false→(((([])++a0.rights).length*88≤eu)∧((([])++a0.rights).length≤a7→((((([])++a0.rights)++([({ name:=a5.name,kind:=3,farm:=a5.farm,reach:=a5.reach,rank:=a5.rank,litres:=a5.litres,since:=a5.since,to:=a5.to,every:=a5.every,length:=a5.length}:Right)])).length*88≤eu)∧(((([])++a0.rights)++([({ name:=a5.name,kind:=3,farm:=a5.farm,reach:=a5.reach,rank:=a5.rank,litres:=a5.litres,since:=a5.since,to:=a5.to,every:=a5.every,length:=a5.length}:Right)])).length≤a7→((c5 (je a0 a5) a1 a2 a3 a4)∧(((ag (je a0 a5) a1 a2 a3 a4).2=true→(okM (bQ a0 a1 a2 a3 a4 a5) (dB a0 a1 a2 a3 a4 a5) ((ag (je a0 a5) a1 a2 a3 a4).1) ()∧(∀ s_0,ct (bQ a0 a1 a2 a3 a4 a5) ((ag (je a0 a5) a1 a2 a3 a4).1) ()=.inr s_0→(okM (bD a0 a1 a2 a3 a4 a5) (dC a0 a1 a2 a3 a4 a5) ((ag a0 a1 a2 a3 a4).1) ()∧(∀ s_1,ct (bD a0 a1 a2 a3 a4 a5) ((ag a0 a1 a2 a3 a4).1) ()=.inr s_1→(a0.rights.length≤a7→(((a0.rights.length:Int) ==0)=false→(a0.rights.length≤a7→((a0.rights.length:Int)≠0∧((0≤(Int.tmod (i64.wrap a6) (a0.rights.length:Int))∧(Int.tmod (i64.wrap a6) (a0.rights.length:Int)) < (a0.rights.length:Int))∧(((a0.rights.getD (Int.toNat (Int.tmod (i64.wrap a6) (a0.rights.length:Int))) (default:Right)).kind !=2)=false→(((([])++a0.rights).length*88≤eu)∧((([])++a0.rights).length≤a7→((0≤(Int.tmod (i64.wrap a6) (a0.rights.length:Int))∧(Int.tmod (i64.wrap a6) (a0.rights.length:Int)) < ((([])++a0.rights).length:Int))∧((c5 (et a0 a6) a1 a2 a3 a4)∧((!(ag (et a0 a6) a1 a2 a3 a4).2)=false→okM (ce a0 a1 a2 a3 a4 a6) (eo a0 a1 a2 a3 a4 a6) ((ag (et a0 a6) a1 a2 a3 a4).1) ()))))))))))))))))∧((ag (je a0 a5) a1 a2 a3 a4).2=false→(a0.rights.length≤a7→(((a0.rights.length:Int) ==0)=false→(a0.rights.length≤a7→((a0.rights.length:Int)≠0∧((0≤(Int.tmod (i64.wrap a6) (a0.rights.length:Int))∧(Int.tmod (i64.wrap a6) (a0.rights.length:Int)) < (a0.rights.length:Int))∧(((a0.rights.getD (Int.toNat (Int.tmod (i64.wrap a6) (a0.rights.length:Int))) (default:Right)).kind !=2)=false→(((([])++a0.rights).length*88≤eu)∧((([])++a0.rights).length≤a7→((0≤(Int.tmod (i64.wrap a6) (a0.rights.length:Int))∧(Int.tmod (i64.wrap a6) (a0.rights.length:Int)) < ((([])++a0.rights).length:Int))∧((c5 (et a0 a6) a1 a2 a3 a4)∧((!(ag (et a0 a6) a1 a2 a3 a4).2)=false→okM (cg a0 a1 a2 a3 a4 a6) (er a0 a1 a2 a3 a4 a6) ((ag (et a0 a6) a1 a2 a3 a4).1) ()))))))))))))))))))))))):=by
 unfold cU je et;try rfl

theorem Ks {κ υ:Type}[DecidableEq κ]{l:List (κ×υ)}(h:(eL l).Nodup)(x:κ)(y:υ)(z:κ):z∈eL (ri l x y)↔z=x∨z∈eL l:=by
 refine⟨(kF x y l h).2 z,fun hz=>Classical.byContradiction fun hn=>?_⟩;have h1:=uW hn;rw[EH]at h1;by_cases hx:z=x
 ·rw[if_pos hx]at h1;cases h1
 ·rw[if_neg hx]at h1;have hz:=hz.resolve_left hx;unfold eL at hz;rw[List.mem_map]at hz;obtain⟨⟨a,b⟩,hm,rfl⟩:=hz;rw[(t8 h).2 hm]at h1;cases h1
theorem M_ {kk:Tag}{α:Type}(L:List α)(d:α)(key:α→kk.T){step:Nat→List (kk.T×Bool)→Empty⊕List (kk.T×Bool)}(h:∀ k s,k<L.length→step k s=.inr (eU kk .bool s (key (L.getD k d)) true)):
  ∃ m:List (kk.T×Bool),aq step L.length 0 []=.inr m∧(∀ x,bF kk .bool m x=true↔x∈L.map key)∧((L.map key).Nodup→m.length=L.length)∧(eL m).Nodup∧∀ x,x∈eL m↔x∈L.map key:=by
 obtain⟨m,h1,h2,h3,h4⟩:=nz (step:=step) (fun k m=>(eL m).Nodup∧(∀ x,x∈eL m↔x∈(L.take k).map key)∧∀ x,bF kk .bool m x=true↔x∈(L.take k).map key) L.length 0 [] ⟨List.nodup_nil,fun x=>by simp[eL],fun x=>by simp[bF,e_];rfl⟩ (fun j s _ hj ⟨a,b,c⟩ =>by
  rw[Nat.zero_add]at hj;refine⟨_,h j s hj,(kF _ _ _ a).1,fun x=>?_,fun x=>?_⟩
  ·rw[cy L d hj,List.map_append,List.mem_append,←b];refine(Ks a _ _ x).trans ?_;simp only[List.map_cons,List.map_nil,List.mem_singleton];exact Or.comm
  ·rw[jB,cy L d hj,List.map_append,List.mem_append,←c];simp only[List.map_cons,List.map_nil,List.mem_singleton];by_cases hx:x=key (L.getD j d)
   ·rw[if_pos hx];exact⟨fun _=>.inr hx,fun _=>rfl⟩
   ·rw[if_neg hx];exact⟨.inl,fun hh=>hh.resolve_right hx⟩)
 rw[Nat.zero_add,List.take_length]at h3 h4;refine⟨m,h1,h4,fun hn=>?_,h2,h3⟩;have:=(Gr h2 hn h3).length_eq;unfold eL at this
 rwa[List.length_map,List.length_map]at this
theorem Qb {α:Type}{e:Int}{l:List α}(h:(lim e l).2=0):e=0∧l.length≤4096∧lim e l=(l,0):=by
 unfold lim at h ⊢;by_cases he:e=0
 ·rw[if_pos he]at h ⊢;by_cases hb:4096<l.length
  ·rw[if_pos hb]at h;cases h
  ·rw[if_neg hb];exact⟨he,by omega,rfl⟩
 ·rw[if_neg he]at h;exact absurd h he
def qO (b:Block):Block:= { right:=b.right,farm:=b.farm,hour:=b.hour,reach:=0}
def askB (c:Claim):Block:= { right:=c.right,farm:=c.farm,hour:=c.hour,reach:=0}
theorem Kt {d:District}{f:Int}(he:aw d=0)(h0:0≤f)(h1:f< (d.farms.length:Int)):∀ r∈pn d f,0≤r:=fun r hr=>by
 have:=(Ad he h0 h1).up.2.2;unfold pn at hr;exact(this r (List.mem_reverse.1 hr)).1
theorem Ku {d:District}{f h:Int}(he:aw d=0)(h0:0≤f)(h1:f< (d.farms.length:Int))(hf:rD d f h<0):∀ r∈pn d f,ev d f r h=true:=fun r hr=>by
 unfold rD at hf;cases hq:(pn d f).find? (BB d f h)with
 |none=>
  have:=List.find?_eq_none.1 hq r hr;unfold BB at this;simpa using this
 |some x=>
  rw[hq,Option.getD_some]at hf;have:=Kt he h0 h1 x (List.mem_of_find?_eq_some hq);omega
structure AgreeR (d d':District):Prop where
 farms:d'.farms=d.farms
 reaches:d'.reaches=d.reaches
 hours:d'.hours=d.hours
 len:d.rights.length≤d'.rights.length
 take:∀ i,i<d.rights.length→(d.rights.getD i default).kind=1→d'.rights.getD i default=d.rights.getD i default
 other:∀ i,i<d'.rights.length→(i<d.rights.length→(d.rights.getD i default).kind≠1)→(d'.rights.getD i default).kind≠1
theorem yH {r:Int}:∀ (ds:List Deed) (B B':Int→Int→Int),B r=B' r→pz ds B r=pz ds B' r
 | [],_,_,h=>h
 |x::ds,B,B',h=>by
  have:pz (x::ds) B=pz ds (iK x B):=rfl;rw[this,show pz (x::ds) B'=pz ds (iK x B')from rfl];refine yH ds _ _ ?_;unfold iK;simp only[h]
theorem Ae {d d':District}(h:AgreeR d d'){l:List Deed}(hc:ar d l=0)(hc':ar d' l=0)(hh k:Int){r:Nat}(hr:r<d'.rights.length):
  ga d' (j7 d' l hh k) r=if r<d.rights.length then ga d (j7 d l hh k) r else []:=by
 have he:=((gN d l).1 hc).1;have he':=((gN d' l).1 hc').1;by_cases ht:r<d.rights.length∧(d.rights.getD r default).kind=1
 ·rw[if_pos ht.1];have hR:=h.take r ht.1 ht.2;have hB:j7 d' l hh k r=j7 d l hh k r:=by
   refine yH _ _ _ ?_;funext f
   unfold B0;rw[Int.toNat_natCast,hR];by_cases hf:(d.rights.getD r default).farm=f
   ·rw[if_pos ⟨by omega,by omega,ht.2,hf⟩,if_pos ⟨by omega,by omega,ht.2,hf⟩]
   ·rw[if_neg (fun q=>hf q.2.2.2),if_neg (fun q=>hf q.2.2.2)]
  unfold ga Gp;rw[h.farms,hB,hR]
 ·have hz':j7 d' l hh k r=fun _=>0:=(yr he' (qN (ow hc') hh k)).other r (fun q=>by
   rw[Int.toNat_natCast]at q;exact h.other r hr (fun hlt hk=>ht ⟨hlt,hk⟩) q.2.2)
  rw[sf hz'];by_cases hlt:r<d.rights.length
  ·rw[if_pos hlt];refine(sf ?_).symm;exact(yr he (qN (ow hc) hh k)).other r (fun q=>by
    rw[Int.toNat_natCast]at q;exact ht ⟨hlt,q.2.2⟩)
  ·rw[if_neg hlt]
theorem Gz {α β:Type}{f g:α→List β}:∀ {l:List α},(∀ x∈l,f x=g x)→l.flatMap f=l.flatMap g
 | [],_=>rfl
 |x::l,h=>by rw[List.flatMap_cons,List.flatMap_cons,h x (by simp),Gz fun y hy=>h y (by simp[hy])]
theorem Dn {α β:Type}{f:α→List β}:∀ {l:List α},(∀ x∈l,f x=[])→l.flatMap f=[]
 | [],_=>rfl
 |x::l,h=>by rw[List.flatMap_cons,h x (by simp),Dn fun y hy=>h y (by simp[hy])];rfl
theorem Do (n m:Nat):List.range (n+m)=List.range n++(List.range m).map (n+ ·):=List.range_add
theorem Kv {d d':District}(h:AgreeR d d'){l:List Deed}(hc:ar d l=0)(hc':ar d' l=0)(hh k:Int):ak d' l hh k=ak d l hh k:=by
 rw[(yq d' l hh k).2,(yq d l hh k).2,if_neg (not_not_intro hc),if_neg (not_not_intro hc'),h.hours];have:jE d' (j7 d' l hh k)=jE d (j7 d l hh k):=by
  unfold jE;obtain⟨m,hm⟩:=Nat.exists_eq_add_of_le h.len;rw[hm,Do,List.flatMap_append];rw[Gz (g:=ga d (j7 d l hh k)) (fun r hr=>by
   rw[List.mem_range]at hr;rw[Ae h hc hc' hh k (by omega),if_pos hr])]
  rw[Dn (l:=(List.range m).map _) (fun r hr=>by
   obtain⟨j,hj,rfl⟩:=List.mem_map.1 hr;rw[List.mem_range]at hj;rw[Ae h hc hc' hh k (by omega),if_neg (by omega)]),List.append_nil]
 rw[this]
theorem sO {d d':District}(h:AgreeR d d'){l:List Deed}(hc:ar d l=0)(hc':ar d' l=0)(hh k:Int):pm d' l hh k=pm d l hh k:=by
 unfold pm g7;rw[Kv h hc hc' hh k];congr 1
 have:∀ L:List Holding,(∀ x∈L,x∈(ak d l hh k).1)→L.filterMap (opn d' hh)=L.filterMap (opn d hh):=fun L=>by
  induction L with
  |nil=>intro _;rfl
  |cons x L ih=>
   intro hx;obtain⟨_,_,a,b,_,_,_,_,_,hk⟩:=E0 (hx x (by simp));have e:opn d' hh x=opn d hh x:=by
    unfold opn;rw[h.take x.right.toNat (by omega) hk]
   rw[List.filterMap_cons,List.filterMap_cons,e,ih fun y hy=>hx y (by simp[hy])]
 exact this _ fun x hx=>hx
theorem Kw {d d':District}(h:d'.reaches=d.reaches):∀ (f:Nat) (n:Int),upL d' f n=upL d f n
 |0,_=>rfl
 |f+1,n=>by rw[upL,upL,h,Kw h f]
theorem Dp {d d':District}(h:AgreeR d d')(f:Int):pn d' f=pn d f:=by
 unfold pn c7;rw[Kw h.reaches,h.farms]
theorem ud {d:District}{f h:Int}(he:aw d=0)(h0:0≤f)(h1:f< (d.farms.length:Int)):0≤rD d f h↔∃ r∈pn d f,ev d f r h=false:=by
 constructor
 ·intro hf;unfold rD at hf;cases hq:(pn d f).find? (BB d f h)with
  |none=>rw[hq]at hf;exact absurd hf (by decide)
  |some x=>
   have:=List.find?_some hq;unfold BB at this;exact⟨x,List.mem_of_find?_eq_some hq,by simpa using this⟩
 ·rintro⟨r,hr,hm⟩;rcases Int.lt_or_le (rD d f h) 0 with hn|hn
  ·rw[Ku he h0 h1 hn r hr]at hm;cases hm
  ·exact hn
theorem yI {d d':District}(h:AgreeR d d'){f hh:Int}(he:aw d=0)(he':aw d'=0)(h0:0≤f)(h1:f< (d.farms.length:Int))(hm:∀ r,ev d f r hh=true→ev d' f r hh=true):0≤rD d' f hh→0≤rD d f hh:=by
 rw[ud he h0 h1,ud he' h0 (by rw[h.farms];exact h1),Dp h];rintro⟨r,hr,q⟩;refine⟨r,hr,?_⟩;cases hq:ev d f r hh with
 |false=>rfl
 |true=>rw[hm r hq]at q;cases q
theorem GA {d:District}{l:List Deed}{k fr to:Int}{x:Block}:x∈(blL d l k fr to).map qO↔∃ c:Claim,(fr≤c.hour∧c.hour≤to)∧c∈pm d l c.hour k∧0≤rD d c.farm c.hour∧x=askB c:=by
 rw[List.mem_map];constructor
 ·rintro⟨b,hb,rfl⟩;obtain⟨c,h1,h2,h3,rfl⟩:=Gv.1 hb;exact⟨c,h1,h2,h3,rfl⟩
 ·rintro⟨c,h1,h2,h3,rfl⟩;exact⟨_,Gv.2 ⟨c,h1,h2,h3,rfl⟩,rfl⟩
theorem eA (d:District)(l:List Deed)(fr to k:Int):c5 d l fr to k∧(ag d l fr to k).2=((aM d l fr to k).2==0)∧(∀ x,bF .block .bool (ag d l fr to k).1 x=true↔x∈(aM d l fr to k).1.map qO)∧∀ x∈(ag d l fr to k).1,x.1∈(aM d l fr to k).1.map qO:=by
 obtain⟨m,h1,h2,_,_,h3⟩:=M_ (kk:=.block) (aM d l fr to k).1 default qO (step:=kG d l fr to k) (fun j s _=>rfl);have e:ag d l fr to k=(m,((aM d l fr to k).2==0)):=by unfold ag;rw[h1]
 rw[e];exact⟨(yF d l fr to k).1,rfl,h2,fun x hx=>(h3 x.1).1 (List.mem_map.2 ⟨x,hx,rfl⟩)⟩
theorem mc {d:District}{l:List Deed}{k fr to:Int}(h:(ag d l fr to k).2=true):oz d l fr to k=0∧(blL d l k fr to).length≤4096∧(aM d l fr to k).1=blL d l k fr to:=by
 rw[(eA d l fr to k).2.1,beq_iff_eq,(yF d l fr to k).2]at h;obtain⟨a,b,c⟩:=Qb h;refine⟨a,b,?_⟩;rw[(yF d l fr to k).2,c]
theorem oB {τ:Type}{step:τ→Unit→Unit⊕Unit}{l:List τ}(h:∀ x∈l,step x ()=.inr ()){p:τ→Unit→Prop}(hp:∀ x s,p x s):okM step p l ()∧ct step l ()=.inr ():=by
 have h1:=kS.2 h;exact⟨fun L hL=>⟨by rw[h1];exact kS.2 fun x hx=>h x (hL.subset hx),F7 L () fun x _ s=>hp x s⟩,h1⟩
theorem Af {d d':District}(h:AgreeR d d'){l:List Deed}{k fr to:Int}(hc:ar d l=0)(hc':ar d' l=0)(hm:∀ f r hh,ev d f r hh=true→ev d' f r hh=true){x:Block}(hx:x∈(blL d' l k fr to).map qO):x∈(blL d l k fr to).map qO:=by
 obtain⟨c,h1,h2,h3,rfl⟩:=GA.1 hx;rw[sO h hc hc']at h2;have hC:=oy h2;exact GA.2 ⟨c,h1,h2,yI h hC.exp ((gN d' l).1 hc').1 hC.f0 hC.f1 (fun r=>hm _ _ _) h3,rfl⟩
theorem Dq {d d':District}{l:List Deed}{k fr to:Int}(h1:(ag d l fr to k).2=true)(h2:(ag d' l fr to k).2=true)(h:∀ x,x∈(blL d' l k fr to).map qO→x∈(blL d l k fr to).map qO){x:Block×Bool}(hx:x∈(ag d' l fr to k).1):bF .block .bool (ag d l fr to k).1 x.1=true:=by
 have a:=(eA d' l fr to k).2.2.2 x hx;rw[(mc h2).2.2]at a;rw[(eA d l fr to k).2.2.1,(mc h1).2.2];exact h _ a
theorem nD (d:District)(x:Right):(je d x).rights=d.rights++[{ name:=x.name,kind:=3,farm:=x.farm,reach:=x.reach,rank:=x.rank,litres:=x.litres,since:=x.since,to:=x.to,every:=x.every,length:=x.length}]:=rfl
theorem sP (d:District)(x:Right):AgreeR d (je d x) where
 farms:=rfl
 reaches:=rfl
 hours:=rfl
 len:=by rw[nD];simp
 take:=fun i hi _=>by
  rw[nD,eC _ _ (by simp;omega),List.getElem_append_left hi,eC _ _ hi]
 other:=fun i hi h=>by
  rw[nD]at hi ⊢;rw[List.length_append,List.length_singleton]at hi;by_cases hlt:i<d.rights.length
  ·rw[eC _ _ (by simp;omega),List.getElem_append_left hlt,←eC d.rights default hlt];exact h hlt
  ·have:i=d.rights.length:=by omega
   subst this;rw[eC _ _ (by simp),List.getElem_append_right (Nat.le_refl _)];simp
theorem Dt (d:District)(x:Right)(f r h:Int):ev (je d x) f r h=(ev d f r h||(x.farm==f&&x.reach==r&&decide (x.since≤h)&&decide (h≤x.to))):=by
 rw[wp,wp,nD,i7,i7];simp only[bq];generalize (d.rights.any _)=A;generalize (d.rights.any _)=B;cases A <;>cases B <;>simp
def ixD (d:District)(w:Int):Nat:=Int.toNat (Int.tmod (i64.wrap w) (d.rights.length:Int))
def eased (x:Right):Right:= { name:=x.name,kind:=3,farm:=x.farm,reach:=x.reach,rank:=x.rank,litres:=x.litres,since:=x.since,to:=x.to,every:=x.every,length:=x.length}
theorem fO (d:District)(w:Int):(et d w).rights=d.rights.set (ixD d w) (eased (d.rights.getD (ixD d w) default)):=rfl
theorem oC (d:District)(w:Int)(hi:ixD d w<d.rights.length)(i:Nat):(et d w).rights.getD i default=if i=ixD d w then eased (d.rights.getD (ixD d w) default)else d.rights.getD i default:=by
 rw[fO];exact yb _ _ _ _ _ hi
theorem Ag {d:District}{w:Int}(hi:ixD d w<d.rights.length)(hk:(d.rights.getD (ixD d w) default).kind=2)(i:Nat):(((et d w).rights.getD i default).kind==1)=((d.rights.getD i default).kind==1):=by
 rw[oC d w hi];split
 ·rename_i e;rw[e,hk];rfl
 ·rfl
theorem sQ {d:District}{w:Int}(hi:ixD d w<d.rights.length)(hk:(d.rights.getD (ixD d w) default).kind=2):AgreeR d (et d w) where
 farms:=rfl
 reaches:=rfl
 hours:=rfl
 len:=by rw[fO,List.length_set];exact Nat.le_refl _
 take:=fun i hi' ht=>by
  rw[oC d w hi,if_neg (fun e=>by rw[e,hk]at ht;cases ht)]
 other:=fun i hi' h=>by
  rw[fO,List.length_set]at hi';have:=Ag hi hk i;intro e;rw[e]at this;exact h hi' (by simpa using this.symm)
theorem Du {d:District}{w:Int}(hi:ixD d w<d.rights.length)(hk:(d.rights.getD (ixD d w) default).kind=2)(he:aw d=0):aw (et d w)=0:=by
 obtain⟨⟨a1,a2,a3,a4,a5⟩,b,c,e,f,g,i,j,m⟩:=(ny d).1 he;refine(ny (et d w)).2 ⟨⟨a1,a2,a3,by rw[fO,List.length_set];exact a4,a5⟩,b,c,e,f,g,i,fun q hq=>?_,m⟩;have hq':q<d.rights.length:=by rw[fO,List.length_set]at hq;exact hq
 have h1:=j q hq';unfold dF at h1 ⊢;rw[j5]at h1 ⊢;rw[oC d w hi];have hx:∀ x,cS (et d w) x=cS d x:=fun x=>rfl;rw[hx];by_cases hqi:q=ixD d w
 ·rw[if_pos hqi];subst hqi;have h2:cS d (d.rights.getD (ixD d w) default)=true:=by
   cases h3:cS d (d.rights.getD (ixD d w) default)with
   |true=>rfl
   |false=>rw[h3]at h1;cases h1
  have h4:cS d (eased (d.rights.getD (ixD d w) default))=true:=by
   revert h2 hk;generalize d.rights.getD (ixD d w) default=y;intro hk h2;unfold cS at h2 ⊢;simp only[eased];generalize hA:(((!(bE y.farm (d.farms.length:Int))) ||(!(bE y.reach (d.reaches.length:Int)))) ||(!(ap ([0,y.since,y.to,(i64.wrap (d.hours - 1))]))))=A at h2 ⊢;cases A with
   |true=>cases h2
   |false=>
    rw[hk]at h2;simp only[cond_false]at h2 ⊢;have e1:((2:Int) ==1)=false:=rfl;have e2:((3:Int) ==1)=false:=rfl;have e3:((3:Int) ==2)=false:=rfl;rw[e1]at h2;rw[e2,e3];simp only[beq_self_eq_true,cond_false,cond_true,Bool.and_eq_true,true_and]at h2 ⊢;exact⟨MG _,h2.2.1,h2.2.2.1,h2.2.2.2.2.2.1,h2.2.2.2.2.2.2⟩
  rw[h4];rfl
 ·rw[if_neg hqi];exact h1
theorem HX {d:District}{w:Int}(hi:ixD d w<d.rights.length)(hk:(d.rights.getD (ixD d w) default).kind=2)(m:List (Int×Deed))(x:Deed):b6 (et d w) m x=b6 d m x:=by
 unfold b6;rw[Ag hi hk,show(et d w).rights.length=d.rights.length by rw[fO,List.length_set]];rfl
theorem yJ {d:District}{w:Int}(hi:ixD d w<d.rights.length)(hk:(d.rights.getD (ixD d w) default).kind=2){l:List Deed}(hc:ar d l=0):ar (et d w) l=0:=by
 obtain⟨a,b,c,e⟩:=(gN d l).1 hc;refine(gN (et d w) l).2 ⟨Du hi hk a,b,c,?_⟩;have:∀ (r b:List Deed),Chk d b r→Chk (et d w) b r:=fun r=>by
  induction r with
  |nil=>intro _ _;trivial
  |cons x r ih=>
   rintro b ⟨h1,h2,h3⟩;exact⟨h1,by rw[HX hi hk];exact h2,ih _ h3⟩
 exact this _ _ e
theorem Dv (d:District)(w:Int)(hi:ixD d w<d.rights.length){y:Right}(hy:y∈(et d w).rights):y=eased (d.rights.getD (ixD d w) default)∨∃ i,i<d.rights.length∧i≠ixD d w∧d.rights.getD i default=y:=by
 obtain⟨i,h1,rfl⟩:=List.mem_iff_getElem.1 hy;have h1':i<d.rights.length:=by rw[fO,List.length_set]at h1;exact h1
 have:=oC d w hi i;rw[eC _ default h1]at this;by_cases e:i=ixD d w
 ·rw[if_pos e]at this;exact .inl this
 ·rw[if_neg e]at this;exact .inr ⟨i,h1',e,this.symm⟩
theorem Dw {d:District}{w:Int}(hi:ixD d w<d.rights.length)(hk:(d.rights.getD (ixD d w) default).kind=2)(f r h:Int)(hm:ev d f r h=true):ev (et d w) f r h=true:=by
 rw[wp,Bool.or_eq_true,Bool.not_eq_true']at hm ⊢;rcases hm with hm|hm
 ·left;cases hq:(et d w).rights.any fun y=>(y.farm !=f)&&bq y 2 y.farm r h with
  |false=>rfl
  |true=>
   obtain⟨y,hy,hp⟩:=List.any_eq_true.1 hq;rcases Dv d w hi hy with rfl| ⟨i,h1,_,rfl⟩
   ·rw[Bool.and_eq_true,fl]at hp;exact absurd hp.2.1 (by simp[eased])
   ·have:=List.any_eq_false.1 hm _ (yB d.rights default h1);exact absurd hp this
 ·right;obtain⟨y,hy,hp⟩:=List.any_eq_true.1 hm;refine List.any_eq_true.2 ⟨y,?_,hp⟩;obtain⟨i,h1,rfl⟩:=List.mem_iff_getElem.1 hy;have hne:i≠ixD d w:=fun e=>by
   rw[fl]at hp;have h2:=hp.1;rw[←eC d.rights default h1,e,hk]at h2;cases h2
  have h3:=oC d w hi i;rw[if_neg hne,eC d.rights default h1]at h3;rw[←h3];exact yB _ default (by rw[fO,List.length_set];exact h1)
theorem Ah {α β γ:Type}{f:α→Option β}{g:α→Option γ}:∀ {l:List α},(∀ x∈l,(f x).isSome=true→(g x).isSome=true)→(l.filterMap f).length≤(l.filterMap g).length
 | [],_=>Nat.le_refl _
 |x::l,h=>by
  have ih:=Ah (l:=l) fun y hy=>h y (by simp[hy]);have hx:=h x (by simp);cases hf:f x with
  |none=>
   rw[List.filterMap_cons_none hf];cases hg:g x with
   |none=>rw[List.filterMap_cons_none hg];exact ih
   |some b=>rw[List.filterMap_cons_some hg,List.length_cons];omega
  |some a=>
   rw[hf]at hx;cases hg:g x with
   |none=>rw[hg]at hx;cases hx rfl
   |some b=>rw[List.filterMap_cons_some hf,List.filterMap_cons_some hg,List.length_cons,List.length_cons];omega
theorem vL {α β γ:Type}{f:α→List β}{g:α→List γ}:∀ {l:List α},(∀ x∈l,(f x).length≤(g x).length)→(l.flatMap f).length≤(l.flatMap g).length
 | [],_=>Nat.le_refl _
 |x::l,h=>by
  rw[List.flatMap_cons,List.flatMap_cons,List.length_append,List.length_append];have:=h x (by simp);have:=vL (f:=f) (g:=g) (l:=l) fun y hy=>h y (by simp[hy]);omega
theorem HY {d:District}{w:Int}(hi:ixD d w<d.rights.length)(hk:(d.rights.getD (ixD d w) default).kind=2){l:List Deed}{fr to k:Int}(h:(ag d l fr to k).2=true):(ag (et d w) l fr to k).2=true:=by
 obtain⟨he,hl,_⟩:=mc h;obtain⟨hc,ha,hb⟩:=mn he;have hc':=yJ hi hk hc;have he':oz (et d w) l fr to k=0:=by
  unfold oz;rw[if_neg (not_not_intro hc'),if_neg (not_not_intro (show mR (et d w) fr to k from ha)),if_neg (by rw[show(et d w).rights.length=d.rights.length by rw[fO,List.length_set]];exact hb)]
 have hexp:=((gN d l).1 hc).1;have hlen:(blL (et d w) l k fr to).length≤(blL d l k fr to).length:=by
  rw[E3,E3];refine vL fun hh _=>?_;unfold blH;rw[sO (sQ hi hk) hc hc'];refine Ah fun c hc2=>?_;have hC:=oy hc2;have:=yI (hh:=hh) (sQ hi hk) hexp (Du hi hk hexp) hC.f0 hC.f1 (fun r=>Dw hi hk c.farm r hh);by_cases q:0≤rD (et d w) c.farm hh
  ·rw[if_pos (this q)];simp
  ·rw[if_neg q];simp
 rw[(eA _ l fr to k).2.1,(yF _ l fr to k).2];unfold lim;rw[if_pos he',if_neg (by omega)];rfl
theorem HZ {d:District}{x:Right}{l:List Deed}{k fr to:Int}(h1:(ag d l fr to k).2=true)(h2:(ag (je d x) l fr to k).2=true){y:Block}(hy:y∈(blL d l k fr to).map qO)(hn:¬y∈(blL (je d x) l k fr to).map qO):y.farm=x.farm:=by
 have hc:=(mn (mc h1).1).1;have hc':=(mn (mc h2).1).1;have hexp':=((gN _ l).1 hc').1;obtain⟨c,q1,q2,q3,rfl⟩:=GA.1 hy;have hC:=oy q2;refine Classical.byContradiction fun hne=>hn (GA.2 ⟨c,q1,by rw[sO (sP d x) hc hc'];exact q2,?_,rfl⟩);have hne:c.farm≠x.farm:=hne;rw[ud hC.exp hC.f0 hC.f1]at q3;rw[ud hexp' hC.f0 hC.f1,Dp (sP d x)];obtain⟨r,hr,hm⟩:=q3;refine⟨r,hr,?_⟩;rw[Dt,hm,show(x.farm==c.farm)=false by simpa using fun e=>hne e.symm];rfl
theorem Dx (d:District)(l:List Deed)(fr to k:Int)(x:Right)(w:Int)(hw:0≤w∧w≤65535):cU d l fr to k x w∧cP d l fr to k x w=true:=by
 rw[nN,o8,P9];cases hF:((!(kA d l fr to)) ||(decide ((d.rights.length:Int)≥256)))with
 |true=>exact⟨⟨uc,fun _ h=>by cases h⟩,rfl⟩
 |false=>
  have hr:d.rights.length<256:=by
   rw[Bool.or_eq_false_iff,decide_eq_false_iff_not]at hF;omega
  cases hW:(ag d l fr to k).2 with
  |false=>exact⟨⟨uc,fun _ _=>⟨(eA _ _ _ _ _).1,fun h=>by cases h⟩⟩,rfl⟩
  |true=>
   have hc:=(mn (mc hW).1).1;have hix:(d.rights.length:Int)≠0→(0≤(Int.tmod (i64.wrap w) (d.rights.length:Int))∧(Int.tmod (i64.wrap w) (d.rights.length:Int)) < (d.rights.length:Int)):=fun h0=>by
    rw[bt (by omega) (by omega)];exact⟨Int.tmod_nonneg _ hw.1,Int.tmod_lt_of_pos _ (by omega)⟩
   have hixn:(d.rights.length:Int)≠0→ixD d w<d.rights.length:=fun h0=>by
    have:=hix h0;unfold ixD;omega
   have hless:(d.rights.length:Int)≠0→((d.rights.getD (Int.toNat (Int.tmod (i64.wrap w) (d.rights.length:Int))) default).kind !=2)=false→(ag (et d w) l fr to k).2=true∧∀ y∈(ag (et d w) l fr to k).1,bF .block .bool (ag d l fr to k).1 y.1=true:=fun h0 hk=>by
    have hk:(d.rights.getD (ixD d w) default).kind=2:=by simpa[ixD]using hk
    have hf:=HY (hixn h0) hk hW;refine⟨hf,fun y hy=>Dq hW hf (fun z hz=>?_) hy⟩;exact Af (sQ (hixn h0) hk) hc (yJ (hixn h0) hk hc) (fun f r hh=>Dw (hixn h0) hk f r hh) hz
   have hB:(([]++d.rights).length*88≤eu):=by rw[List.nil_append];unfold eu;omega
   have hB2:(([]++d.rights)++([({ name:=x.name,kind:=3,farm:=x.farm,reach:=x.reach,rank:=x.rank,litres:=x.litres,since:=x.since,to:=x.to,every:=x.every,length:=x.length}:Right)])).length*88≤eu:=by
    rw[List.nil_append,List.length_append,List.length_singleton];unfold eu;omega
   cases hM:(ag (je d x) l fr to k).2 with
   |true=>
    have hc':=(mn (mc hM).1).1;have s0:=oB (step:=bQ d l fr to k x) (l:=(ag (je d x) l fr to k).1) (p:=dB d l fr to k x) (fun y hy=>by
     have:=Dq hW hM (fun z hz=>Af (sP d x) hc hc' (fun f r hh h=>by rw[Dt,h];rfl) hz) hy;unfold bQ;rw[this];rfl) (fun _ _=>trivial)
    have s1:=oB (step:=bD d l fr to k x) (l:=(ag d l fr to k).1) (p:=dC d l fr to k x) (fun y hy=>by
     have hy':=(eA d l fr to k).2.2.2 y hy;rw[(mc hW).2.2]at hy';rw[mT];cases hq:bF .block .bool (ag (je d x) l fr to k).1 y.1 with
     |true=>rfl
     |false=>
      have hn:¬y.1∈(blL (je d x) l k fr to).map qO:=fun hin=>by
       have:=((eA (je d x) l fr to k).2.2.1 y.1).2 (by rw[(mc hM).2.2];exact hin);rw[hq]at this;cases this
      rw[HZ hW hM hy' hn];simp) (fun _ _=>trivial)
    rw[s0.2,s1.2];refine⟨⟨uc,fun _ _=>⟨(eA _ _ _ _ _).1,fun _=>⟨hB,fun _=>⟨hB2,fun _=>⟨(eA _ _ _ _ _).1,fun _=>⟨s0.1,fun _ _=>⟨s1.1,fun _ _ _ h0 _=>?_⟩⟩,fun h=>by cases h⟩⟩⟩⟩⟩,?_⟩
    ·have h0:(d.rights.length:Int)≠0:=by simpa using h0
     refine⟨h0,hix h0,fun hk=>⟨hB,fun _=>⟨by rw[List.nil_append];exact hix h0,(eA _ _ _ _ _).1,fun _=>?_⟩⟩⟩;exact(oB (fun y hy=>by
      have:=(hless h0 hk).2 y hy;unfold ce;rw[this];rfl) (fun _ _=>trivial)).1
    ·simp only[Bool.not_true,cond_false,cond_true];cases h0:((d.rights.length:Int) ==0)with
     |true=>rfl
     |false=>
      have h0:(d.rights.length:Int)≠0:=by simpa using h0
      simp only[cond_false];cases hk:((d.rights.getD (Int.toNat (Int.tmod (i64.wrap w) (d.rights.length:Int))) default).kind !=2)with
      |true=>rfl
      |false=>
       rw[(hless h0 hk).1];simp only[Bool.not_true,cond_false];rw[(oB (step:=ce d l fr to k w) (l:=(ag (et d w) l fr to k).1) (p:=fun _ _=>True) (fun y hy=>by
        have:=(hless h0 hk).2 y hy;unfold ce;rw[this];rfl) (fun _ _=>trivial)).2]
   |false=>
    refine⟨⟨uc,fun _ _=>⟨(eA _ _ _ _ _).1,fun _=>⟨hB,fun _=>⟨hB2,fun _=>⟨(eA _ _ _ _ _).1,(fun h=>by cases h),fun _ _ h0 _=>?_⟩⟩⟩⟩⟩,?_⟩
    ·have h0:(d.rights.length:Int)≠0:=by simpa using h0
     refine⟨h0,hix h0,fun hk=>⟨hB,fun _=>⟨by rw[List.nil_append];exact hix h0,(eA _ _ _ _ _).1,fun _=>?_⟩⟩⟩;exact(oB (fun y hy=>by
      have:=(hless h0 hk).2 y hy;unfold cg;rw[this];rfl) (fun _ _=>trivial)).1
    ·simp only[Bool.not_true,cond_false];cases h0:((d.rights.length:Int) ==0)with
     |true=>rfl
     |false=>
      have h0:(d.rights.length:Int)≠0:=by simpa using h0
      simp only[cond_false];cases hk:((d.rights.getD (Int.toNat (Int.tmod (i64.wrap w) (d.rights.length:Int))) default).kind !=2)with
      |true=>rfl
      |false=>
       rw[(hless h0 hk).1];simp only[Bool.not_true,cond_false];rw[(oB (step:=cg d l fr to k w) (l:=(ag (et d w) l fr to k).1) (p:=fun _ _=>True) (fun y hy=>by
        have:=(hless h0 hk).2 y hy;unfold cg;rw[this];rfl) (fun _ _=>trivial)).2]
theorem Qc (d:District)(l:List Deed)(fr to k:Int)(x:Right)(w:Int)(_: -9223372036854775808≤fr∧fr≤9223372036854775807)(_: -9223372036854775808≤to∧to≤9223372036854775807)(_: -9223372036854775808≤k∧k≤9223372036854775807)(h:0≤w∧w≤65535):cU d l fr to k x w:=(Dx d l fr to k x w h).1
theorem Qd (d:District)(l:List Deed)(fr to k:Int)(x:Right)(w:Int)(_: -9223372036854775808≤fr∧fr≤9223372036854775807)(_: -9223372036854775808≤to∧to≤9223372036854775807)(_: -9223372036854775808≤k∧k≤9223372036854775807)(h:0≤w∧w≤65535):cP d l fr to k x w=true:=(Dx d l fr to k x w h).2
end Go.Sx
end
section
namespace Go.Sx
open Go.Deep Go.RowKit
section
variable {F:Nat→Prop}{own:Own}{w:World}
def RC (F:Nat→Prop)(own:Own)(w:World)(ks:List Kd)(cs:List Value):Prop:=
 ∃ l:List SV,nO ks l=true∧l.length=cs.length∧∀ (j:Nat) (s:SV) (v:Value),l[j]? =some s→cs[j]? =some v→Rel F own w s v
theorem Dy:∀ {a b:List Kd} {l m:List SV},nO a l=true→nO b m=true→nO (a++b) (l++m)=true
 | [],b,l,m,h1,h2=>by rw[nX h1];exact h2
 |k::a,b,l,m,h1,h2=>by
  obtain⟨x,r,rfl,e1,e2⟩:=km h1;simp only[List.cons_append,nO,e1,Dy e2 h2,Bool.and_self]
theorem RC.nil:RC F own w [] []:=⟨[],rfl,rfl,fun j s v h=>by cases h⟩
theorem RC.app {a b:List Kd}{c d:List Value}(h1:RC F own w a c)(h2:RC F own w b d):RC F own w (a++b) (c++d):=by
 obtain⟨l,f1,n1,r1⟩:=h1;obtain⟨m,f2,n2,r2⟩:=h2;refine⟨l++m,Dy f1 f2,by simp[n1,n2],fun j s v hs hv=>?_⟩;by_cases hj:j<l.length
 ·rw[List.getElem?_append_left hj]at hs;rw[List.getElem?_append_left (by omega)]at hv;exact r1 j s v hs hv
 ·rw[List.getElem?_append_right (by omega)]at hs;rw[List.getElem?_append_right (by omega),←n1]at hv;exact r2 _ s v hs hv
theorem RC.one {k:Kd}{s:SV}{v:Value}(h1:fit k s=true)(h2:Rel F own w s v):RC F own w [k] [v]:=
 ⟨[s],by simp[nO,h1],rfl,fun j s' v' hs hv=>by
  cases j with
  |zero=>simp only[List.getElem?_cons_zero,Option.some.injEq]at hs hv;subst hs;subst hv;exact h2
  |succ j=>simp at hs⟩
end
def Qe:Kd→Kd→Bool
 | .s,.s=>true
 | .b,.b=>true
 | .n a,.n b=>decide (a=b)
 | .r a,.r b=>decide (a=b)
 | .m a c,.m b d=>decide (a=b)&&decide (c=d)
 |_,_=>false
theorem Na:∀ {a b:Kd},Qe a b=true→a=b:=by
 intro a b h;cases a <;>cases b <;>simp_all [Qe]
def Kx:List Kd→List Kd→Bool
 | [],[] =>true
 |a::l,b::m=>Qe a b&&Kx l m
 |_,_=>false
theorem GB:∀ {a b:List Kd},Kx a b=true→a=b
 | [],[],_=>rfl
 |a::l,b::m,h=>by
  simp only[Kx,Bool.and_eq_true]at h;rw[Na h.1,GB h.2]
def yK (P:Program)(g:TypeId→Option (List Kd)):List Field→Nat→Nat→Option (List Kd)
 | [],off,tot=>bif Nat.beq off tot then some []else none
 |f::r,off,tot=>match g f.type with
  |some a=>bif Nat.beq f.offset off&&Nat.beq a.length (P.cellsOf f.type)then(yK P g r (off+a.length) tot).map (a++ ·)else none
  |none=>none
def E4 (a:List Kd):Nat→List Kd
 |0=>[]
 |n+1=>a++E4 a n
def yL (P:Program):Nat→TypeId→Option (List Kd)
 |0,_=>none
 |n+1,t=>match P.underlying t with
  |some .bool=>some [.b]
  |some (.int k) =>some [.n k]
  |some .string=>some [.s]
  |some (.slice e) =>match BI P e,yL P n e with
   |some k,some ks=>bif Kx ks (cC k)&&Nat.beq (P.cellsOf e) (aa k)&&Nat.ble 1 (aa k)then some [.r k]else none
   |_,_=>none
  |some (.struct fs) =>yK P (yL P n) fs.toList 0 (P.cellsOf t)
  |some (.array m e) =>match yL P n e with
   |some a=>bif Nat.beq a.length (P.cellsOf e)&&Nat.beq (P.cellsOf t) (m*a.length)then some (E4 a m)else none
   |none=>none
  |_=>none
section
variable {H:Type}{enc:TypeId×Value→H}{P:Program}{F:Nat→Prop}{own:Own}{w:World}{base:Nat}{spare:Nat→Bool}{held:Bool}{S:DataW H→Prop}
theorem GC {g:TypeId→Option (List Kd)}(hg:∀ t ks,g t=some ks→∀ (fuel:Nat) (cs:List Value) (x:DataW H×List MemPlace),DataW.trod enc P w base spare held fuel t cs=some x→S x.1→RC F own w ks cs)
  (fuel:Nat) (cs:List Value):∀ (fs:List Field) (off:Nat) (ks:List Kd),yK P g fs off cs.length=some ks→(∀ f∈fs,∃ x,DataW.trod enc P w base spare held fuel f.type ((cs.drop f.offset).take (P.cellsOf f.type))=some x∧S x.1)→RC F own w ks (cs.drop off)
 | [],off,ks,h,_=>by
  unfold yK at h;cases hb:Nat.beq off cs.length with
  |false=>rw[hb]at h;cases h
  |true=>
   rw[hb]at h;have:off=cs.length:=Nat.eq_of_beq_eq_true hb;subst this;cases h;rw[List.drop_length];exact RC.nil
 |f::r,off,ks,h,hx=>by
  unfold yK at h;cases ha:g f.type with
  |none=>rw[ha]at h;cases h
  |some a=>
   rw[ha]at h;dsimp only at h;cases hb:Nat.beq f.offset off&&Nat.beq a.length (P.cellsOf f.type)with
   |false=>rw[hb]at h;cases h
   |true=>
    rw[hb]at h;simp only[cond_true,Option.map_eq_some_iff]at h;obtain⟨ks2,h2,rfl⟩:=h;rw[Bool.and_eq_true]at hb;have e1:f.offset=off:=Nat.eq_of_beq_eq_true hb.1;have e2:a.length=P.cellsOf f.type:=Nat.eq_of_beq_eq_true hb.2;obtain⟨x,hx1,hs1⟩:=hx f (by simp);have h3:=hg _ _ ha _ _ _ hx1 hs1;have h4:=GC hg fuel cs r (off+a.length) ks2 h2 fun f hf=>hx f (by simp[hf]);have:=h3.app h4;rw[e1,←e2]at this
    rwa[←List.drop_drop,List.take_append_drop]at this
theorem GD {e:TypeId}{a:List Kd}(ha:∀ (fuel:Nat) (cs:List Value) (x:DataW H×List MemPlace),DataW.trod enc P w base spare held fuel e cs=some x→S x.1→RC F own w a cs)
  (fuel:Nat):∀ (m:Nat) (cs:List Value),cs.length=m*a.length→(∀ i,i<m→∃ x,DataW.trod enc P w base spare held fuel e ((cs.drop (i*a.length)).take a.length)=some x∧S x.1)→RC F own w (E4 a m) cs
 |0,cs,h,_=>by
  have:cs=[]:=by simpa using h
  subst this;exact RC.nil
 |m+1,cs,h,hx=>by
  obtain⟨x,hx1,hs1⟩:=hx 0 (by omega);rw[Nat.zero_mul,List.drop_zero]at hx1;have h3:=ha _ _ _ hx1 hs1;have h4:=GD ha fuel m (cs.drop a.length) (by rw[List.length_drop,h,Nat.succ_mul];omega) fun i hi=>by
   obtain⟨x,hx2,hs2⟩:=hx (i+1) (by omega);refine⟨x,?_,hs2⟩;rw[List.drop_drop]
   rwa[Nat.succ_mul,Nat.add_comm]at hx2
  have:=h3.app h4
  rwa[List.take_append_drop]at this
structure Small (S:DataW H→Prop):Prop where
 agg:∀ l,S (.agg l)→∀ d∈l,S d
 slice:∀ l m,S (.slice l m)→l.length≤a7∧∀ d∈l,S d
theorem kH (hS:Small S)(hown:∀ b,¬bV F own b):∀ (n:Nat) (t:TypeId) (ks:List Kd),yL P n t=some ks→∀ (fuel:Nat) (cs:List Value) (x:DataW H×List MemPlace),DataW.trod enc P w base spare held fuel t cs=some x→S x.1→RC F own w ks cs
 |0,_,_,h,_,_,_,_,_=>by cases h
 |n+1,t,ks,h,fuel,cs,x,hx,hs=>by
  unfold yL at h;split at h
  ·rename_i ht;cases h;obtain⟨b,rfl,rfl⟩:=DataW.trod_bool ht hx;exact RC.one (s:=.v (.bool b)) rfl (.v _)
  ·rename_i k ht;cases h;obtain⟨m,rfl,rfl,_⟩:=DataW.trod_int ht hx;exact RC.one (s:=.v (.int k m)) (by simp[fit]) (.v _)
  ·rename_i ht;cases h;obtain⟨b,rfl,rfl,_⟩:=DataW.trod_string ht hx;exact RC.one (s:=.v (.string b)) rfl (.v _)
  ·rename_i e ht;split at h
   ·rename_i k ks2 hk hks;cases hb:Kx ks2 (cC k)&&Nat.beq (P.cellsOf e) (aa k)&&Nat.ble 1 (aa k)with
    |false=>rw[hb]at h;cases h
    |true=>
     rw[hb]at h;cases h;simp only[Bool.and_eq_true]at hb;have e1:=GB hb.1.1;have e2:P.cellsOf e=aa k:=Nat.eq_of_beq_eq_true hb.1.2;have e3:1≤aa k:=nbl hb.2;subst e1;rcases open_slice ht hx with⟨rfl,rfl⟩ | ⟨a,len,cap,m,f2,D,Pl,rfl,hb1,hl,hm,hmm,rfl,hel⟩
     ·exact RC.one (s:=.rs k []) (by simp[fit]) .rs0
     ·have hlm:len≤m:=by subst hmm;split <;>omega
      obtain⟨hs1,hs2⟩:=hS.slice _ _ hs;simp only[List.length_map,List.length_range]at hs1;have helt:∀ i,i<len→∃ cs',cs'.length=aa k∧(∀ j v,cs'[j]? =some v→w.cell? ((a.add (i*aa k)).add j)=some v)∧RC F own w (cC k) cs':=fun i hi=>by
       obtain⟨cs',h1,h2⟩:=hel i (by omega);have h3:=kH hS hown n e (cC k) hks f2 cs' _ h2 (hs2 _ (List.mem_map_of_mem (List.mem_range.2 hi)));unfold World.cells? at h1;split at h1
       ·refine⟨cs',by rw[mapM_some_length h1,List.length_range,e2],fun j v hj=>?_,h3⟩;have hlt:j<P.cellsOf e:=by
         have:=(List.getElem?_eq_some_iff.1 hj).1
         rwa[mapM_some_length h1,List.length_range]at this
        have:=mapM_some_get h1 j j (by simp[hlt]);rw[e2]at this;rw[this,hj]
       ·cases h1
      by_cases h0:len=0
      ·subst h0;exact RC.one (s:=.rs k []) (by simp[fit]) .rs0
      ·have hsp:a.spot=none:=by
        obtain⟨cs',h1,h2,_⟩:=helt 0 (by omega);have:=h2 0 (cs'[0]'(by omega)) (by rw[List.getElem?_eq_getElem]);rw[Nat.zero_mul]at this;simp only[Addr.add,if_true]at this;unfold World.cell? at this;split at this
        ·cases hsp:a.spot with
         |none=>rfl
         |some q=>rw[hsp]at this;simp at this
        ·cases this
       obtain⟨ab,ao,asp⟩:=a;dsimp only at hsp;subst hsp
       haveI:Inhabited k.T:=⟨cF k⟩
       obtain⟨X,hX⟩:=choose_lt (p:=fun i (x:k.T) =>∀ (j:Nat) (s:SV),(cellsOf k x)[j]? =some s→∃ v,w.cell? ⟨ab,ao+i*aa k+j,none⟩=some v∧Rel F own w s v) (n:=len) fun i hi=>by
        obtain⟨cs',h1,h2,l,h3,h4,h5⟩:=helt i hi;refine⟨mkE k l,fun j s hj=>?_⟩;rw[la (k:=k) (l:=l) (x:=mkE k l) (by unfold mo;rw[h3];rfl)]at hj;have hlt:j<cs'.length:=by
         have:=(List.getElem?_eq_some_iff.1 hj).1;omega
        refine⟨cs'[j],?_,h5 j s _ hj (List.getElem?_eq_getElem hlt)⟩;have:=h2 j cs'[j] (List.getElem?_eq_getElem hlt);have hadd:∀ p q,((⟨ab,ao,none⟩:Addr).add p).add q=⟨ab,ao+p+q,none⟩:=fun p q=>by
         unfold Addr.add;by_cases hp:p=0 <;>by_cases hq:q=0 <;>simp[hp,hq]
        rwa[hadd]at this
       have hL:((List.range len).map X).length=len:=by simp
       refine RC.one (s:=.rs k ((List.range len).map X)) (by simp[fit]) ?_;have hget:∀ (i:Nat) (x:k.T),((List.range len).map X)[i]? =some x→i<len∧x=X i:=fun i x hi=>by
        obtain⟨h1,h2⟩:=List.getElem?_eq_some_iff.1 hi;rw[hL]at h1;simp only[List.getElem_map,List.getElem_range]at h2;subst h2;exact⟨h1,rfl⟩
       have:=Rel.rs (F:=F) (own:=own) (w:=w) (k:=k) (l:=(List.range len).map X) (b:=ab) (o:=ao) (cap:=cap) (fun i j=>(w.cell? ⟨ab,ao+i*aa k+j,none⟩).getD undef) (by rw[hL];exact hl) (by rw[hL];exact hs1)
        (fun i x hi j s hj=>by
         obtain⟨h1,rfl⟩:=hget i x hi;obtain⟨v,h2,_⟩:=hX i h1 j s hj;exact⟨hown _,by rw[h2];rfl⟩)
        (fun i x hi j s hj=>by
         obtain⟨h1,rfl⟩:=hget i x hi;obtain⟨v,h2,h3⟩:=hX i h1 j s hj;rw[h2];exact h3)
       rwa[hL]at this
   ·cases h
  ·rename_i fs ht;obtain⟨xs,m,rfl,rfl,hl,hlen,hf⟩:=DataW.trod_struct ht hx;rw[←hl]at h;have:=GC (kH hS hown n) m cs fs.toList 0 ks h fun f hfm=>by
    obtain⟨i,hi,rfl⟩:=List.getElem_of_mem hfm;have hi':i<fs.size:=by simpa using hi
    have h1:=hf i fs[i] (by simp[hi']);rw[List.getElem?_eq_getElem (by omega)]at h1;refine⟨_,by simpa using h1,hS.agg _ hs _ (List.mem_map_of_mem (List.getElem_mem _))⟩
   simpa using this
  ·rename_i m e ht;split at h
   ·rename_i a ha;cases hb:Nat.beq a.length (P.cellsOf e)&&Nat.beq (P.cellsOf t) (m*a.length)with
    |false=>rw[hb]at h;cases h
    |true=>
     rw[hb]at h;cases h;rw[Bool.and_eq_true]at hb;have e1:a.length=P.cellsOf e:=Nat.eq_of_beq_eq_true hb.1;have e2:P.cellsOf t=m*a.length:=Nat.eq_of_beq_eq_true hb.2;obtain⟨xs,f2,rfl,rfl,hl,hlen,hf⟩:=DataW.trod_array ht hx;refine GD (kH hS hown n e a ha) f2 m cs (by rw[hl,e2]) fun i hi=>?_;have h1:=hf i hi;rw[List.getElem?_eq_getElem (by omega),←e1]at h1;exact⟨_,h1,hS.agg _ hs _ (List.mem_map_of_mem (List.getElem_mem _))⟩
   ·cases h
  ·cases h
end
end Go.Sx
end
section
namespace Go.Sx
open Go.Proofs
section
variable {F:Nat→Prop}{own:Own}{w:World}
theorem GF {k:Tag}{cs:Array Value}(h:RC F own w (cC k) cs.toList):∃ x:k.T,Rel F own w (.agg (cellsOf k x)) (.agg cs):=by
 obtain⟨l,h3,h4,h5⟩:=h;refine⟨mkE k l,?_⟩;rw[la (k:=k) (l:=l) (x:=mkE k l) (by unfold mo;rw[h3];rfl)];refine .agg (by simpa using h4.symm) fun j s hj=>?_;have hlt:j<cs.size:=by
  have:=(List.getElem?_eq_some_iff.1 hj).1;simpa[h4]using this
 exact h5 j s _ hj (by simp[Array.getD,hlt])
theorem Qf {k:Tag}{v:Value}(h:RC F own w [.r k] [v]):∃ l:List k.T,Rel F own w (.rs k l) v:=by
 obtain⟨l,h3,h4,h5⟩:=h;obtain⟨x,r,rfl,h6,h7⟩:=km h3;have h8:=h5 0 x v rfl rfl;cases x with
 |rs k' l'=>
  have:k=k':=by
   simp only[fit]at h6;exact nV h6
  subst this;exact⟨l',h8⟩
 |_=>simp[fit]at h6
end
end Go.Sx
end
section
namespace Go.Sx
open Go.ChangeShapes Go.RowKit Go.WideShapes
section
variable {H:Type}{enc:TypeId×Value→H}{P:Program}
def Nb (P:Program):List TypeId→Bool
 | [] =>true
 |t::r=>P.readableRec t&&Nat.blt t P.types.size&&Nb P r
theorem Ai (hl:laidOutB P=true){W W':World}(hg:Below W.heap.size W W'):∀ {ts:List TypeId} {vs:List Value} {ds:List (DataW H)} {ps:List MemPlace},Nb P ts=true→
  DataW.TrodAll enc P W 0 (fun _=>true) true ts vs ds ps→(∀ x∈ps,x.block<W.heap.size)→DataW.TrodAll enc P W' 0 (fun b=>decide (b<W.heap.size)) true ts vs ds ps
 | [],vs,ds,ps,_,h,_=>by
  obtain⟨rfl,rfl,rfl⟩:=trodAll_nil h;exact trodAll_mk0
 |t::ts,vs,ds,ps,hk,h,hlt=>by
  unfold Nb at hk;rw[Bool.and_eq_true,Bool.and_eq_true]at hk;obtain⟨v,vs',d,ds',p,q,rfl,rfl,rfl,h1,h2⟩:=trodAll_cons h;refine trodAll_cons_mk (WideElems.Trod_stays hl hk.1.1 (by simpa[Nat.blt_eq]using hk.1.2) h1 (fun x hx=>hg.same (hlt x (List.mem_append_left _ hx))) (fun x hx=>by simpa using hlt x (List.mem_append_left _ hx))) ?_;exact Ai hl hg hk.2 h2 fun x hx=>hlt x (List.mem_append_right _ hx)
theorem Ky (hl:laidOutB P=true){f:Func}{s:ChangeSpec}{W W':World}{args:Array Value}{ds gs:List (DataW H)}{before:List MemPlace}{t:TypeId}
  (hk:Nb P f.params.toList=true) (hW:DataW.Whole enc P f.params.toList s.vars false W args.toList ds gs before)
  (hr:f.resultTypes= #[t]) (ht:P.underlying t=some .bool) (hv:s.vars=[]) (h1:(s.fn H (ds++gs)).results=[.lit (.bool true)]) (h2:(s.fn H (ds++gs)).args=ds) (h3:(s.fn H (ds++gs)).vars=[])
  (hg:Below W.heap.size W W'):s.post enc P f false true false false W args (.bool true) W':=by
 have hlt:=hW.lt;have hW0:=hW;obtain⟨p,q,hA,hV,rfl,_,_⟩:=hW;rw[hv]at hV;obtain⟨rfl,rfl⟩:=trodVars_none hV;refine⟨ds,[],p++[],[],p,[],hW0,?_,?_,?_,?_,fun h=>by cases h⟩
 ·rw[h1,hr];exact trodAll_cons_mk (shut_bool ht _) trodAll_mk0
 ·rw[h2];exact Ai hl hg hk hA fun x hx=>hlt x (by simpa using hx)
 ·rw[h3,hv];rfl
 ·exact World.keptBut_mono (fun x hx=>⟨hx,.inr (.inl (by simpa using hx))⟩) (hg.frame (· ∈p++[]))
end
end Go.Sx
end
section
namespace Go.Proofs.YtgdkdhdlfdcefaaGreat.bulks
theorem one_le {H:Type}(d:DataW H):1≤Rows.uptoBulk d:=by
 cases d with
 |lit l=>cases l <;>simp[Rows.uptoBulk]
 |nil=>simp[Rows.uptoBulk]
 |ptr d=>simp[Rows.uptoBulk]
 |slice lP spare=>simp[Rows.uptoBulk]
 |agg parts=>simp[Rows.uptoBulk]
 |iface t d=>simp[Rows.uptoBulk]
 |map entries=>simp[Rows.uptoBulk]
 |held h=>simp[Rows.uptoBulk]
theorem part_le {H:Type}{d:DataW H}{l:List (DataW H)}(h:d∈l):Rows.uptoBulk d≤Rows.uptoBulkAll l:=by
 induction l with
 |nil=>cases h
 |cons x r ih=>
  simp only[Rows.uptoBulkAll];cases List.mem_cons.1 h with
  |inl e=>subst e;omega
  |inr e=>have:=ih e;omega
theorem append {H:Type}(l r:List (DataW H)):Rows.uptoBulkAll (l++r)=Rows.uptoBulkAll l+Rows.uptoBulkAll r:=by
 induction l with
 |nil=>simp[Rows.uptoBulkAll]
 |cons x l ih=>simp only[List.cons_append,Rows.uptoBulkAll,ih];omega
theorem length_le {H:Type}(l:List (DataW H)):l.length≤Rows.uptoBulkAll l:=by
 induction l with
 |nil=>simp[Rows.uptoBulkAll]
 |cons x r ih=>have:=one_le x;simp only[Rows.uptoBulkAll,List.length_cons];omega
theorem slice_le {H:Type}(lP spare:List (DataW H)):lP.length+spare.length+1≤Rows.uptoBulk (.slice lP spare):=by
 have h1:=length_le lP;have h2:=length_le spare;simp only[Rows.uptoBulk];omega
theorem slice_elems {H:Type}(lP spare:List (DataW H)):Rows.uptoBulkAll lP+1≤Rows.uptoBulk (.slice lP spare):=by
 simp only[Rows.uptoBulk];omega
theorem bound {H:Type}{l:List (DataW H)}(hk:Rows.uptoSmall H l=true):Rows.uptoBulkAll l≤1048576:=by
 simpa[Rows.uptoSmall]using hk
theorem room {n b:Nat}(hn:n≤2097152)(hb:b≤4096):(n+n / 4+192)*b≤281474976710656:=by
 have h:(n+n / 4+192)*b≤2621632*4096:=Nat.mul_le_mul (by omega) hb;omega
end Go.Proofs.YtgdkdhdlfdcefaaGreat.bulks
end
section
namespace Go.Proofs.YtgdkdhdlfdcefaaGreat.claimsEasement
open Go.ChangeShapes Go.WideShapes Go.ChangeAt Go.RowKit Go.Sx
set_option linter.unusedVariables false
theorem con_eq (x0:Tag.district.T)(x1:List Tag.deed.T)(x2:Int)(x3:Int)(x4:Int)(x5:Tag.right.T)(x6:Int):gC [.agg (cellsOf .district x0),.rs .deed x1,.v (.int .i64 x2),.v (.int .i64 x3),.v (.int .i64 x4),.agg (cellsOf .right x5),.v (.int .u16 x6)]=some (.det (cU x0 x1 x2 x3 x4 x5 x6) (.v (.bool (cP x0 x1 x2 x3 x4 x5 x6)))):=by
 unfold gC;simp only[go_sem,Nat.reduceBEq]
theorem call_true {W:World}{cs0:Array Value}(h0:RC (fun _=>False) cp W (cC .district) cs0.toList){v1:Value}(h1:RC (fun _=>False) cp W [.r .deed] [v1])(x2:Int)(h2:(-9223372036854775808)≤x2∧x2≤9223372036854775807)(x3:Int)(h3:(-9223372036854775808)≤x3∧x3≤9223372036854775807)(x4:Int)(h4:(-9223372036854775808)≤x4∧x4≤9223372036854775807){cs5:Array Value}(h5:RC (fun _=>False) cp W (cC .right) cs5.toList)(x6:Int)(h6:0≤x6∧x6≤65535):
  Calls Tryz.prog 7 #[.agg cs0,v1,.int .i64 x2,.int .i64 x3,.int .i64 x4,.agg cs5,.int .u16 x6] W (fun e W'=>e=.returned (.bool true)∧Below W.heap.size W W'):=by
 obtain⟨x0,r0⟩:=GF h0;obtain⟨x1,r1⟩:=Qf h1;obtain⟨x5,r5⟩:=GF h5;refine(oA.calls _ _ (con_eq x0 x1 x2 x3 x4 x5 x6) (Qc x0 x1 x2 x3 x4 x5 x6 h2 h3 h4 h6) (fun _=>False) W _ (fun b h=>h.elim) ⟨rfl,fun j s hj=>?_⟩).mono fun e W' he=>?_
 ·match j,hj with
  |0,hj=>cases hj;exact r0
  |1,hj=>cases hj;exact r1
  |2,hj=>cases hj;exact .v _
  |3,hj=>cases hj;exact .v _
  |4,hj=>cases hj;exact .v _
  |5,hj=>cases hj;exact r5
  |6,hj=>cases hj;exact .v _
 ·rcases he with⟨s,u,own',hs,rfl,hh,hb⟩ | ⟨x,hx,_⟩
  ·simp only[db]at hs;subst hs;rw[Qd x0 x1 x2 x3 x4 x5 x6 h2 h3 h4 h6]at hh;have:=hh.val;simp only[p_]at this;rw[bU this];exact⟨rfl,hb⟩
  ·exact hx.elim
theorem own:ownKnob Tryz.prog.godebug=none:=by kernel_rfl
theorem small (H:Type):Small (fun d:DataW H=>Rows.uptoBulk d≤1048576) where
 agg l h d hd:=by
  have h1:=bulks.part_le hd;simp only[Rows.uptoBulk]at h;omega
 slice l m h:=by
  have h1:=bulks.slice_le l m;have h2:=bulks.slice_elems l m;refine⟨by unfold a7;omega,fun d hd=>?_⟩;have:=bulks.part_le hd;omega
theorem laid:laidOutB Tryz.prog=true:=by kernel_rfl
set_option maxRecDepth 100000 in
theorem contract (H:Type)(enc:TypeId×Value→H)(W:World)(base:Nat)(args:Array Value)(ds gs:List (DataW H))(before:List MemPlace)
  (hval:∀ (j:Nat) t v,Tryz.f7.params[j]? =some t→args[j]? =some v→Value.okWide Tryz.prog W .any base t v)
  (hW:DataW.Whole enc Tryz.prog Tryz.f7.params.toList Rows.claimsEasementSpec.vars false W args.toList ds gs before) (hk:Rows.uptoSmall H (ds++gs)=true):
  Calls Tryz.prog 7 args W fun e W'=>∃ v,e=.returned v∧Rows.claimsEasementSpec.post enc Tryz.prog Tryz.f7 false true false false W args v W':=by
 have hW':=hW;obtain⟨p,q,hA0,hV,rfl,hfz,hnd⟩:=hW;have hA:DataW.TrodAll enc Tryz.prog W 0 (fun _=>true) true Tryz.f7.params.toList args.toList ds p:=hA0;rw[Tryz.params7]at hA hval;obtain⟨v0,vs0,d0,ds0,p0,q0,hargs,rfl,rfl,h0,r0⟩:=trodAll_cons hA;obtain⟨v1,vs1,d1,ds1,p1,q1,rfl,rfl,rfl,h1,r1⟩:=trodAll_cons r0;obtain⟨v2,vs2,d2,ds2,p2,q2,rfl,rfl,rfl,h2,r2⟩:=trodAll_cons r1;obtain⟨v3,vs3,d3,ds3,p3,q3,rfl,rfl,rfl,h3,r3⟩:=trodAll_cons r2;obtain⟨v4,vs4,d4,ds4,p4,q4,rfl,rfl,rfl,h4,r4⟩:=trodAll_cons r3;obtain⟨v5,vs5,d5,ds5,p5,q5,rfl,rfl,rfl,h5,r5⟩:=trodAll_cons r4;obtain⟨v6,vs6,d6,ds6,p6,q6,rfl,rfl,rfl,h6,r6⟩:=trodAll_cons r5;obtain⟨rfl,rfl,rfl⟩:=trodAll_nil r6;obtain rfl:args= #[v0,v1,v2,v3,v4,v5,v6]:=by cases args;simp_all
 obtain⟨rfl,rfl⟩:=trodVars_none hV;have hb:=bulks.bound hk;simp only[Rows.uptoBulkAll,List.append_nil,List.cons_append,List.nil_append]at hb;have ho:∀ b,¬bV (fun _=>False) cp b:=fun b h=>by
  rcases h with h| ⟨_,_,h,_⟩
  ·exact h
  ·cases h
 have s0:∃ cs,v0=.agg cs:=by
  have:=hval 0 31 v0 rfl rfl;simp only[Value.okWide,Tryz.underlying31]at this;exact⟨_,this.choose_spec.1⟩
 obtain⟨cs0,rfl⟩:=s0;obtain⟨a1,l1,c1,rfl⟩:=okWide_slice Tryz.underlying32 (hval 1 32 v1 rfl rfl);obtain⟨a2,rfl,rfl,rfl,w2⟩:=open_int Tryz.underlying3 (hval 2 3 v2 rfl rfl) h2;have R2:(-9223372036854775808)≤a2∧a2≤9223372036854775807:=by simpa[Lit.wf,IntKind.min,IntKind.max,IntKind.signed,IntKind.bits]using w2
 obtain⟨a3,rfl,rfl,rfl,w3⟩:=open_int Tryz.underlying3 (hval 3 3 v3 rfl rfl) h3;have R3:(-9223372036854775808)≤a3∧a3≤9223372036854775807:=by simpa[Lit.wf,IntKind.min,IntKind.max,IntKind.signed,IntKind.bits]using w3
 obtain⟨a4,rfl,rfl,rfl,w4⟩:=open_int Tryz.underlying3 (hval 4 3 v4 rfl rfl) h4;have R4:(-9223372036854775808)≤a4∧a4≤9223372036854775807:=by simpa[Lit.wf,IntKind.min,IntKind.max,IntKind.signed,IntKind.bits]using w4
 have s5:∃ cs,v5=.agg cs:=by
  have:=hval 5 61 v5 rfl rfl;simp only[Value.okWide,Tryz.underlying61]at this;exact⟨_,this.choose_spec.1⟩
 obtain⟨cs5,rfl⟩:=s5;obtain⟨a6,rfl,rfl,rfl,w6⟩:=open_int Tryz.underlying66 (hval 6 66 v6 rfl rfl) h6;have R6:0≤a6∧a6≤65535:=by simpa[Lit.wf,IntKind.min,IntKind.max,IntKind.signed,IntKind.bits]using w6
 have R0:RC (fun _=>False) cp W (cC .district) cs0.toList:=by
  obtain⟨f,hf⟩:=h0;exact kH (n:=6) (t:=31) (small H) ho _ kr f _ _ hf (by show Rows.uptoBulk d0≤_;omega)
 have R1:RC (fun _=>False) cp W [.r .deed] [.slice a1 l1 c1]:=by
  obtain⟨f,hf⟩:=h1;exact kH (n:=6) (t:=32) (small H) ho _ kr f _ _ hf (by show Rows.uptoBulk d1≤_;omega)
 have R5:RC (fun _=>False) cp W (cC .right) cs5.toList:=by
  obtain⟨f,hf⟩:=h5;exact kH (n:=6) (t:=61) (small H) ho _ kr f _ _ hf (by show Rows.uptoBulk d5≤_;omega)
 refine(call_true R0 R1 _ R2 _ R3 _ R4 R5 _ R6).mono fun e W' ⟨he,hg⟩ =>?_;subst he;exact⟨_,rfl,Ky laid kr hW' kr Tryz.underlying4 rfl rfl rfl rfl hg⟩
def zeroV:Kd→Value
 | .n k=>.int k 0
 | .b=>.bool false
 | .s=>.string (ByteArray.mk #[])
 | .r _=>.slice none 0 0
 | .m _ _=>.map none
 | .f=>.nilFunc
def wit:Array Value:= #[.agg ((cC .district).map zeroV).toArray,.slice none 0 0,.int .i64 0,.int .i64 0,.int .i64 0,.agg ((cC .right).map zeroV).toArray,.int .u16 0]
set_option maxRecDepth 100000 in
theorem lifted (os:Os)(started:os.Started)(H:Type)(enc:TypeId×Value→H)(F:Stop.Interp):
  ReturnsInHanded {} Tryz.checked os 7 .any ((Rows.OpenSpec.upto Rows.claimsEasementSpec).pre6 enc Tryz.prog Tryz.f7 Rows.claimsEasementUptoRow.domain false) (((Rows.OpenSpec.upto Rows.claimsEasementSpec).at F).post enc Tryz.prog Tryz.f7 false true false false):=by
 refine returnsInHanded_of_cond (C:=Tryz.checked) (s:=Rows.OpenSpec.upto Rows.claimsEasementSpec) (k:=Rows.uptoSmall) rfl own started kr Tryz.func7
  (OpenSpec.witness (enc:=enc) (C:=Tryz.checked) (s:=Rows.OpenSpec.upto Rows.claimsEasementSpec) (k:=Rows.uptoSmall) rfl false ⟨#[],wit,[]⟩ 8 kr kr kr
   (x:=(DataW.whole enc Tryz.prog (World.plainHolding Tryz.prog os ⟨#[],wit,[]⟩).memory Tryz.f7.params.toList Rows.claimsEasementSpec.vars false wit.toList 8).getD ([],[],[])) kr rfl kr) ?_
 intro W base args ds gs before hval hW _ hk _;exact contract H enc W base args ds gs before hval hW hk
theorem over:Rows.claimsEasementUptoRow.holds Tryz.pinned (Rows.OpenSpec.upto Rows.claimsEasementSpec):=
 OpenClaim.holds_of_cond 7 Tryz.f7 rfl rfl rfl rfl rfl rfl rfl ⟨rfl,rfl,rfl,rfl,rfl⟩ rfl rfl rfl rfl rfl kr Tryz.func7 kr
  (of_decide_eq_true kr) (by unfold Func.isWrapper;first|(rw[if_pos (by decide+kernel)];kernel_rfl) |(rw[if_neg (by decide+kernel)];exact⟨rfl,rfl⟩))
  (fun os started H enc _ F=>lifted os started H enc F)
theorem proved:Rows.ClaimsEasementUptoSaid:=over
end Go.Proofs.YtgdkdhdlfdcefaaGreat.claimsEasement
end
