/- Part of the proof that the law ClaimsOnce returns true and leaves its arguments as they were, for all arguments of bulk at most 1048576 (the Upto form). -/
import Derived.Test.YtgdkdhdlfdcefaaGreatC312
import Derived.Test.YtgdkdhdlfdcefaaGreatC309
import Derived.Test.YtgdkdhdlfdcefaaGreatC311
import Derived.Test.YtgdkdhdlfdcefaaGreatC308
import Derived.Test.YtgdkdhdlfdcefaaGreatC307
import Derived.Deep.Slices
import Derived.OpenShut
import Derived.ChangeSame
import Derived.WideKeyArgs
import Derived.Below
import Derived.Test.YtgdkdhdlfdcefaaGreatRows
import Derived.WalkKit
import Derived.ProofKit
import Derived.JoinedCond
import Derived.Carry
set_option linter.all false
set_option maxHeartbeats 4000000
set_option maxRecDepth 100000
section
namespace Go.Sx
open Go.Proofs
open IntKind (i64)
def ofF (x:ClaimsFound):Option Claim:=if x.reach<0 then some x.claim else none
def blF (x:ClaimsFound):Option Block:=if 0≤x.reach then some { right:=x.claim.right,farm:=x.claim.farm,hour:=x.claim.hour,reach:=x.reach}else none
def ofL (d:District)(l:List Deed)(k fr to:Int):List Claim:=(eH d l k fr to).filterMap ofF
def blL (d:District)(l:List Deed)(k fr to:Int):List Block:=(eH d l k fr to).filterMap blF
def lim {α:Type}(e:Int)(l:List α):List α×Int:=if e=0 then(if 4096<l.length then([],2)else(l,0))else([],e)
theorem x8 {d:District}{l:List Deed}{fr to k:Int}(h:qq d l fr to k=0):(eH d l k fr to).length≤2457600:=by
 rw[←(sm d l k fr to).length_eq];unfold qq at h;split at h
 ·rename_i h1;exact absurd h h1
 ·split at h
  ·cases h
  ·rename_i h2;have h2:nv d fr to k:=Classical.not_not.1 h2;split at h
   ·cases h
   ·rename_i h3;exact qV h2 h3 sj
theorem rM (d:District)(l:List Deed)(fr to k:Int):ig d l fr to k∧aQ d l fr to k=lim (qq d l fr to k) (ofL d l k fr to):=by
 obtain⟨h1,h2⟩:=JM d l fr to k;by_cases he:qq d l fr to k=0
 ·rw[if_pos he]at h2;have hlen:=x8 he;have hstep:∀ j s,j< (eH d l k fr to).length→jN d l fr to k j s=.inr (s++(ofF ((eH d l k fr to).getD j default)).toList):=fun j s hj=>by
   unfold jN ofF;rw[h2];simp only;by_cases hq:((eH d l k fr to).getD j default).reach<0
   ·rw[if_pos hq,decide_eq_true hq];rfl
   ·rw[if_neg hq,decide_eq_false hq];simp
  refine⟨⟨h1,fun _ _=>?_⟩,?_⟩
  ·rw[h2];refine AX (eH d l k fr to) default ofF [] hstep fun j hj=>?_;intro _;rw[h2];have:=nu (eH d l k fr to) ofF j;have h3:=List.length_filterMap_le ofF (eH d l k fr to);rw[List.length_append,List.nil_append,List.length_singleton];unfold fE;omega
  ·unfold aQ lim;have hrun:=x7 _ default ofF [] hstep;rw[h2];simp only[bne_self_eq_false,cond_false];rw[hrun,if_pos he,List.nil_append];show(bif decide (((ofL d l k fr to).length:Int) > 4096)then([],2)else(ofL d l k fr to,0))=_;by_cases hq:4096< (ofL d l k fr to).length
   ·rw[if_pos hq,decide_eq_true (by omega)];rfl
   ·rw[if_neg hq,decide_eq_false (by omega)];rfl
 ·rw[if_neg he]at h2;have hne:((aB d l fr to k).2 !=0)=true:=by rw[h2];simpa using he
  refine⟨⟨h1,fun h=>by rw[hne]at h;cases h⟩,?_⟩;unfold aQ lim;rw[hne,h2,if_neg he];rfl
theorem vg (d:District)(l:List Deed)(fr to k:Int):e_ d l fr to k∧al d l fr to k=lim (qq d l fr to k) (blL d l k fr to):=by
 obtain⟨h1,h2⟩:=JM d l fr to k;by_cases he:qq d l fr to k=0
 ·rw[if_pos he]at h2;have hlen:=x8 he;have hstep:∀ j s,j< (eH d l k fr to).length→fD d l fr to k j s=.inr (s++(blF ((eH d l k fr to).getD j default)).toList):=fun j s hj=>by
   unfold fD blF;rw[h2];simp only;by_cases hq:0≤((eH d l k fr to).getD j default).reach
   ·rw[if_pos hq,decide_eq_true (show _≥(0:Int)from hq)];rfl
   ·rw[if_neg hq,decide_eq_false (show ¬_≥(0:Int)from hq)];simp
  refine⟨⟨h1,fun _ _=>?_⟩,?_⟩
  ·rw[h2];refine AX (eH d l k fr to) default blF [] hstep fun j hj=>?_;intro _;rw[h2];have:=nu (eH d l k fr to) blF j;have h3:=List.length_filterMap_le blF (eH d l k fr to);rw[List.length_append,List.nil_append,List.length_singleton];unfold fE;omega
  ·unfold al lim;have hrun:=x7 _ default blF [] hstep;rw[h2];simp only[bne_self_eq_false,cond_false];rw[hrun,if_pos he,List.nil_append];show(bif decide (((blL d l k fr to).length:Int) > 4096)then([],2)else(blL d l k fr to,0))=_;by_cases hq:4096< (blL d l k fr to).length
   ·rw[if_pos hq,decide_eq_true (by omega)];rfl
   ·rw[if_neg hq,decide_eq_false (by omega)];rfl
 ·rw[if_neg he]at h2;have hne:((aB d l fr to k).2 !=0)=true:=by rw[h2];simpa using he
  refine⟨⟨h1,fun h=>by rw[hne]at h;cases h⟩,?_⟩;unfold al lim;rw[hne,h2,if_neg he];rfl
theorem AZ {α β γ:Type}(f:α→List β)(g:β→Option γ):∀ l:List α,(l.flatMap f).filterMap g=l.flatMap fun a=>(f a).filterMap g
 | [] =>rfl
 |a::l=>by rw[List.flatMap_cons,List.flatMap_cons,List.filterMap_append,AZ f g l]
def ofH (d:District)(l:List Deed)(k h:Int):List Claim:=(oX d l h k).filterMap fun c=>if vK d c.farm h<0 then some c else none
def blH (d:District)(l:List Deed)(k h:Int):List Block:=(oX d l h k).filterMap fun c=>if 0≤vK d c.farm h then some { right:=c.right,farm:=c.farm,hour:=c.hour,reach:=vK d c.farm h}else none
theorem Pp (d:District)(l:List Deed)(k fr to:Int):ofL d l k fr to=(hrs fr to).flatMap (ofH d l k):=by
 unfold ofL eH;rw[AZ];congr 1
 funext h
 rw[List.filterMap_map];rfl
theorem Pq (d:District)(l:List Deed)(k fr to:Int):blL d l k fr to=(hrs fr to).flatMap (blH d l k):=by
 unfold blL eH;rw[AZ];congr 1
 funext h
 rw[List.filterMap_map];rfl
theorem FI {d:District}{l:List Deed}{k fr to:Int}{c:Claim}:c∈ofL d l k fr to↔(fr≤c.hour∧c.hour≤to)∧c∈oX d l c.hour k∧vK d c.farm c.hour<0:=by
 rw[Pp,List.mem_flatMap];constructor
 ·rintro⟨h,hh,hc⟩;unfold ofH at hc;rw[List.mem_filterMap]at hc;obtain⟨c',hc',e⟩:=hc;split at e
  ·rename_i hf;cases e;have:=(mE hc').hour;subst this;exact⟨tB.1 hh,hc',hf⟩
  ·cases e
 ·rintro⟨h1,h2,h3⟩;refine⟨c.hour,tB.2 h1,?_⟩;unfold ofH;rw[List.mem_filterMap];exact⟨c,h2,by rw[if_pos h3]⟩
theorem FJ {d:District}{l:List Deed}{k fr to:Int}{b:Block}:b∈blL d l k fr to↔∃ c:Claim,(fr≤c.hour∧c.hour≤to)∧c∈oX d l c.hour k∧0≤vK d c.farm c.hour∧b= { right:=c.right,farm:=c.farm,hour:=c.hour,reach:=vK d c.farm c.hour}:=by
 rw[Pq,List.mem_flatMap];constructor
 ·rintro⟨h,hh,hc⟩;unfold blH at hc;rw[List.mem_filterMap]at hc;obtain⟨c',hc',e⟩:=hc;split at e
  ·rename_i hf;cases e;have:=(mE hc').hour;subst this;exact⟨c',tB.1 hh,hc',hf,rfl⟩
  ·cases e
 ·rintro⟨c,h1,h2,h3,rfl⟩;refine⟨c.hour,tB.2 h1,?_⟩;unfold blH;rw[List.mem_filterMap];exact⟨c,h2,by rw[if_pos h3]⟩
theorem Ej (d:District)(l:List Deed)(k fr to:Int):(ofL d l k fr to).Pairwise kh:=by
 unfold ofL;rw[List.pairwise_filterMap];refine(tJ d l k fr to).imp fun {a b} hab x hx y hy=>?_;unfold ofF at hx hy;split at hx
 ·split at hy
  ·cases hx;cases hy;exact(tz _ _).1 hab
  ·cases hy
 ·cases hx
theorem zA {d:District}{l:List Deed}{fr to k:Int}(h:qq d l fr to k=0):aO d l=0∧nv d fr to k∧¬4096< (to - fr+1)*(d.rights.length:Int):=by
 unfold qq at h;split at h
 ·rename_i h1;exact absurd h h1
 ·rename_i h1;split at h
  ·cases h
  ·rename_i h2;split at h
   ·cases h
   ·rename_i h3;exact⟨Classical.not_not.1 h1,Classical.not_not.1 h2,h3⟩
theorem Pr (a b:List Claim):lP a b:=fun _ _ h=>lM _ _ _ fun j _ _ hj _=>by
 simp only[bne_eq_false_iff_eq]at h;omega
theorem G9 (a:List Claim):my a a=true:=by
 unfold my;have e:ap (iO a a) a.length 0 ()=.inr ():=ia.2 fun j _=>by
  unfold iO;simp
 rw[e];simp
theorem Mr (a b:List Block):ff a b:=fun _ _ h=>lM _ _ _ fun j _ _ hj _=>by
 simp only[bne_eq_false_iff_eq]at h;omega
theorem x9 (a:List Block):eX a a=true:=by
 unfold eX;have e:ap (eL a a) a.length 0 ()=.inr ():=ia.2 fun j _=>by
  unfold eL;simp
 rw[e];simp
def bh:District:=({ name:=(ByteArray.mk #[]),hours:=4,tank:=({ cap:=100,start:=50}:Tank),reaches:=(([({ name:=(ByteArray.mk #[]),up:=(-1),delay:=1,cap:=20,bank:=50,siphon:=0,evap:=({ lo:=0,hi:=0}:Range),seep:=(({ n:=0,d:=1}:Ratio),({ n:=0,d:=1}:Ratio))}:Reach),({ name:=(ByteArray.mk #[]),up:=(-1),delay:=1,cap:=20,bank:=50,siphon:=0,evap:=({ lo:=0,hi:=0}:Range),seep:=(({ n:=0,d:=1}:Ratio),({ n:=0,d:=1}:Ratio))}:Reach)]).set 1 ({ name:=(([({ name:=(ByteArray.mk #[]),up:=(-1),delay:=1,cap:=20,bank:=50,siphon:=0,evap:=({ lo:=0,hi:=0}:Range),seep:=(({ n:=0,d:=1}:Ratio),({ n:=0,d:=1}:Ratio))}:Reach),({ name:=(ByteArray.mk #[]),up:=(-1),delay:=1,cap:=20,bank:=50,siphon:=0,evap:=({ lo:=0,hi:=0}:Range),seep:=(({ n:=0,d:=1}:Ratio),({ n:=0,d:=1}:Ratio))}:Reach)]).getD 1 (default:Reach)).name,up:=0,delay:=(([({ name:=(ByteArray.mk #[]),up:=(-1),delay:=1,cap:=20,bank:=50,siphon:=0,evap:=({ lo:=0,hi:=0}:Range),seep:=(({ n:=0,d:=1}:Ratio),({ n:=0,d:=1}:Ratio))}:Reach),({ name:=(ByteArray.mk #[]),up:=(-1),delay:=1,cap:=20,bank:=50,siphon:=0,evap:=({ lo:=0,hi:=0}:Range),seep:=(({ n:=0,d:=1}:Ratio),({ n:=0,d:=1}:Ratio))}:Reach)]).getD 1 (default:Reach)).delay,cap:=(([({ name:=(ByteArray.mk #[]),up:=(-1),delay:=1,cap:=20,bank:=50,siphon:=0,evap:=({ lo:=0,hi:=0}:Range),seep:=(({ n:=0,d:=1}:Ratio),({ n:=0,d:=1}:Ratio))}:Reach),({ name:=(ByteArray.mk #[]),up:=(-1),delay:=1,cap:=20,bank:=50,siphon:=0,evap:=({ lo:=0,hi:=0}:Range),seep:=(({ n:=0,d:=1}:Ratio),({ n:=0,d:=1}:Ratio))}:Reach)]).getD 1 (default:Reach)).cap,bank:=(([({ name:=(ByteArray.mk #[]),up:=(-1),delay:=1,cap:=20,bank:=50,siphon:=0,evap:=({ lo:=0,hi:=0}:Range),seep:=(({ n:=0,d:=1}:Ratio),({ n:=0,d:=1}:Ratio))}:Reach),({ name:=(ByteArray.mk #[]),up:=(-1),delay:=1,cap:=20,bank:=50,siphon:=0,evap:=({ lo:=0,hi:=0}:Range),seep:=(({ n:=0,d:=1}:Ratio),({ n:=0,d:=1}:Ratio))}:Reach)]).getD 1 (default:Reach)).bank,siphon:=(([({ name:=(ByteArray.mk #[]),up:=(-1),delay:=1,cap:=20,bank:=50,siphon:=0,evap:=({ lo:=0,hi:=0}:Range),seep:=(({ n:=0,d:=1}:Ratio),({ n:=0,d:=1}:Ratio))}:Reach),({ name:=(ByteArray.mk #[]),up:=(-1),delay:=1,cap:=20,bank:=50,siphon:=0,evap:=({ lo:=0,hi:=0}:Range),seep:=(({ n:=0,d:=1}:Ratio),({ n:=0,d:=1}:Ratio))}:Reach)]).getD 1 (default:Reach)).siphon,evap:=(([({ name:=(ByteArray.mk #[]),up:=(-1),delay:=1,cap:=20,bank:=50,siphon:=0,evap:=({ lo:=0,hi:=0}:Range),seep:=(({ n:=0,d:=1}:Ratio),({ n:=0,d:=1}:Ratio))}:Reach),({ name:=(ByteArray.mk #[]),up:=(-1),delay:=1,cap:=20,bank:=50,siphon:=0,evap:=({ lo:=0,hi:=0}:Range),seep:=(({ n:=0,d:=1}:Ratio),({ n:=0,d:=1}:Ratio))}:Reach)]).getD 1 (default:Reach)).evap,seep:=(([({ name:=(ByteArray.mk #[]),up:=(-1),delay:=1,cap:=20,bank:=50,siphon:=0,evap:=({ lo:=0,hi:=0}:Range),seep:=(({ n:=0,d:=1}:Ratio),({ n:=0,d:=1}:Ratio))}:Reach),({ name:=(ByteArray.mk #[]),up:=(-1),delay:=1,cap:=20,bank:=50,siphon:=0,evap:=({ lo:=0,hi:=0}:Range),seep:=(({ n:=0,d:=1}:Ratio),({ n:=0,d:=1}:Ratio))}:Reach)]).getD 1 (default:Reach)).seep}:Reach)),farms:=[({ name:=(ByteArray.mk #[]),reach:=1,area:=10,crop:=0}:Farm),({ name:=(ByteArray.mk #[]),reach:=1,area:=10,crop:=0}:Farm)],crops:=[({ name:=(ByteArray.mk #[]),need:=3}:Crop)],rights:=[({ name:=(ByteArray.mk #[]),kind:=1,farm:=0,reach:=0,rank:=7,litres:=5,since:=0,to:=3,every:=2,length:=1}:Right),({ name:=(ByteArray.mk #[]),kind:=2,farm:=1,reach:=1,rank:=0,litres:=0,since:=0,to:=3,every:=0,length:=0}:Right)],duties:=[],wells:=[]}:District)
def lB:Prop:=(0≤1∧1< (([({ name:=(ByteArray.mk #[]),up:=(-1),delay:=1,cap:=20,bank:=50,siphon:=0,evap:=({ lo:=0,hi:=0}:Range),seep:=(({ n:=0,d:=1}:Ratio),({ n:=0,d:=1}:Ratio))}:Reach),({ name:=(ByteArray.mk #[]),up:=(-1),delay:=1,cap:=20,bank:=50,siphon:=0,evap:=({ lo:=0,hi:=0}:Range),seep:=(({ n:=0,d:=1}:Ratio),({ n:=0,d:=1}:Ratio))}:Reach)]).length:Int))
@[go_sem] def oY:List SV→Option Con:=(pE (.det (lB) (.agg [.v (.string ((bh).name)),.v (.int .i64 ((bh).hours)),.v (.int .i64 ((bh).tank.cap)),.v (.int .i64 ((bh).tank.start)),.nw .reach ((bh).reaches),.nw .farm ((bh).farms),.nw .crop ((bh).crops),.nw .right ((bh).rights),.v (.slice none 0 0),.v (.slice none 0 0)])))
theorem uE:FnOk Tryz.prog 27 oY:=by
 have hG:ConsOk Tryz.prog (mkG [] []):=aw cg0 cg0;refine ow [] mixed an hG (fn:=Tryz.f27) (c:=ae Tryz.f27) kr kr kr kr (aF (fun hp=>?_));dsimp only[aD]at hp;unfold lB at hp;refine⟨nbl rfl,L0,ai _,?_⟩
 ·unfold ae Tryz.f27;try unfold bh
  exact zq1
def jP:=([({ right:=0,farm:=0,hour:=2,litres:=5,rank:=7}:Claim)])
def jQ:=([({ right:=0,farm:=0,hour:=0,litres:=0,rank:=7}:Claim)])
def jR:=([({ right:=0,farm:=0,hour:=0,reach:=1}:Block),({ right:=0,farm:=0,hour:=2,reach:=1}:Block)])
def ii:=(bh.rights++([({ name:=(ByteArray.mk #[]),kind:=3,farm:=0,reach:=1,rank:=0,litres:=0,since:=2,to:=3,every:=0,length:=0}:Right)]))
def df:=({ name:=bh.name,hours:=bh.hours,tank:=bh.tank,reaches:=bh.reaches,farms:=bh.farms,crops:=bh.crops,rights:=bh.rights,duties:=[],wells:=[]}:District)
def cA:=(aQ df ([]) 0 4 0)
def cB:=(aQ df ([]) 0 3 0)
def fU:=(cB.1)
def cC:=(al df ([]) 0 3 0)
def fV:=(cC.1)
def dg:=(fU.length:Int)
def cr:=({ name:=bh.name,hours:=bh.hours,tank:=bh.tank,reaches:=bh.reaches,farms:=bh.farms,crops:=bh.crops,rights:=ii,duties:=[],wells:=[]}:District)
def dW:=(eX fV jR)
def ij:=(ff fV jR)
def cD:=(aQ cr ([]) 0 3 0)
def dC:=(cD.1)
def cT:=(al cr ([]) 0 3 0)
def gC:=(cT.1)
def dP:=(jG cr jQ)
def fH:=(my dC jP)
def iS:=(ff gC ([({ right:=0,farm:=0,hour:=0,reach:=1}:Block)]))
def iT:=(lP dC jP)
def di:=(jG cr dC)
def eV:=(dC++dC)
def fI:=(jG cr eV)
def iU:=(fP cr eV)
def ko:Bool:=(bif((((((((cB.2 !=0) ||(cC.2 !=0)) ||(cA.2 !=1)) ||(cD.2 !=0)) ||(cT.2 !=0)) ||(di !=0)) ||(dP !=260)) ||(fI !=260))then false else((((dg==0)&&dW)&&fH)&&(eX gC ([({ right:=0,farm:=0,hour:=0,reach:=1}:Block)]))))
def jS:Prop:=((lB)∧((ig df ([]) 0 3 0)∧((e_ df ([]) 0 3 0)∧((ig df ([]) 0 4 0)∧((ii.length*88≤fE)∧(ii.length≤bo→((ig cr ([]) 0 3 0)∧((e_ cr ([]) 0 3 0)∧(((((((cB.2 !=0) ||(cC.2 !=0)) ||(cA.2 !=1)) ||(cD.2 !=0)) ||(cT.2 !=0))=false→(fP cr dC))∧((((((((cB.2 !=0) ||(cC.2 !=0)) ||(cA.2 !=1)) ||(cD.2 !=0)) ||(cT.2 !=0)) ||(di !=0))=false→(fP cr jQ))∧(((((((((cB.2 !=0) ||(cC.2 !=0)) ||(cA.2 !=1)) ||(cD.2 !=0)) ||(cT.2 !=0)) ||(di !=0)) ||(dP !=260))=true→(((((((((cB.2 !=0) ||(cC.2 !=0)) ||(cA.2 !=1)) ||(cD.2 !=0)) ||(cT.2 !=0)) ||(di !=0)) ||(dP !=260))=false→iU)∧(((((((((cB.2 !=0) ||(cC.2 !=0)) ||(cA.2 !=1)) ||(cD.2 !=0)) ||(cT.2 !=0)) ||(di !=0)) ||(dP !=260)) ||(fI !=260))=false→(fU.length≤bo→(((dg==0)=true→ij)∧((((dg==0)&&dW)=true→iT)∧((((dg==0)&&dW)&&fH)=true→iS)))))))∧((((((((cB.2 !=0) ||(cC.2 !=0)) ||(cA.2 !=1)) ||(cD.2 !=0)) ||(cT.2 !=0)) ||(di !=0)) ||(dP !=260))=false→((eV.length*40≤fE)∧(eV.length≤bo→(((((((((cB.2 !=0) ||(cC.2 !=0)) ||(cA.2 !=1)) ||(cD.2 !=0)) ||(cT.2 !=0)) ||(di !=0)) ||(dP !=260))=false→iU)∧(((((((((cB.2 !=0) ||(cC.2 !=0)) ||(cA.2 !=1)) ||(cD.2 !=0)) ||(cT.2 !=0)) ||(di !=0)) ||(dP !=260)) ||(fI !=260))=false→(fU.length≤bo→(((dg==0)=true→ij)∧((((dg==0)&&dW)=true→iT)∧((((dg==0)&&dW)&&fH)=true→iS))))))))))))))))))))
@[go_sem] def tK:List SV→Option Con:=(pE (.det (jS) (.v (.bool (ko)))))
theorem yD:FnOk Tryz.prog 10 tK:=by
 have hG:ConsOk Tryz.prog (mkG [(12,fun l=>ql (du [.st .district,.sl .deed,.o,.o,.o] l)),(14,fun l=>km (du [.st .district,.sl .deed,.o,.o,.o] l)),(16,fun l=>tg (du [.sl .claim,.sl .claim] l)),(17,fun l=>mz (du [.sl .block,.sl .block] l)),(19,fun l=>pC (du [.st .district,.sl .claim] l)),(27,oY)] []):=aw (cgc (tC.norm [.st .district,.sl .deed,.o,.o,.o]) (cgc (nc.norm [.st .district,.sl .deed,.o,.o,.o]) (cgc (yq.norm [.sl .claim,.sl .claim]) (cgc (qP.norm [.sl .block,.sl .block]) (cgc (vA.norm [.st .district,.sl .claim]) (cgc uE cg0)))))) cg0;refine aZ [.o] mixed an hG (fn:=Tryz.f10) (c:=ae Tryz.f10) kr kr kr kr (aF (fun hp=>?_));dsimp only[aD]at hp;unfold jS at hp;try simp only[jP,jQ,jR,ii,df,cA,cB,fU,cC,fV,dg,cr,dW,ij,cD,dC,cT,gC,dP,fH,iS,iT,di,eV,fI,iU]at hp
 refine⟨nbl rfl,L0,ai _,?_⟩
 ·unfold ae Tryz.f10;try unfold ko
  simp (maxSteps:=1000000) only[go_sem,Nat.reduceBEq,Nat.reduceLeDiff,Nat.reduceLT,decide_true,Nat.reduceAdd,Nat.reduceSub,Nat.reduceMul,Int.reduceLE,Int.reduceLT,Int.reduceToNat,Int.reduceNeg,reduceCtorEq,jP,jQ,jR,ii,df,cA,cB,fU,cC,fV,dg,cr,dW,ij,cD,dC,cT,gC,dP,fH,iS,iT,di,eV,fI,iU];all_goals exact cl
structure FineC (d:District)(x:Claim):Prop where
 r0:0≤x.right
 r1:x.right< (d.rights.length:Int)
 f0:0≤x.farm
 f1:x.farm< (d.farms.length:Int)
 h0:0≤x.hour
 h1:x.hour<d.hours
 l0:1≤x.litres
 l1:x.litres≤1073741824
 kind:(d.rights.getD x.right.toNat default).kind=1
 rank:(d.rights.getD x.right.toNat default).rank=x.rank
def JN (d:District)(x:Claim):Bool:=(((((((decide (x.right≥0))&&(decide (x.right< (d.rights.length:Int))))&&(decide (x.farm≥0)))&&(decide (x.farm< (d.farms.length:Int))))&&(decide (x.hour≥0)))&&(decide (x.hour<d.hours)))&&(decide (x.litres≥1)))&&(decide (x.litres≤1073741824))
theorem G_ (d:District)(x:Claim):JN d x=true↔(0≤x.right∧x.right< (d.rights.length:Int))∧(0≤x.farm∧x.farm< (d.farms.length:Int))∧(0≤x.hour∧x.hour<d.hours)∧(1≤x.litres∧x.litres≤1073741824):=by
 unfold JN;simp only[Bool.and_eq_true,decide_eq_true_eq];omega
theorem JO (d:District)(c:List Claim):fP d c:=fun _ _ h _=>lM _ _ _ fun j _ _ hj=>by
 have hle:c.length≤4096:=by have:=of_decide_eq_false h;omega
 have h8:=G_ d (c.getD j default);unfold JN at h8;unfold gN;refine⟨fun h=>?_,fun h=>?_,fun h h0=>?_⟩
 ·rw[Bool.not_eq_false']at h;exact(h8.1 h).1
 ·rw[Bool.or_eq_false_iff,Bool.not_eq_false']at h;exact(h8.1 h.1).1
 ·have h0:=of_decide_eq_true h0;rw[bq (by omega) (by omega)];omega
def uF (d:District)(l:List Deed)(k fr to:Int):List ClaimsFound:=(hrs fr to).flatMap fun h=>(((k9 d (qo d l h k)).filterMap (opn d h)).foldl yC []).map (fnd d h)
theorem CK {d:District}{l:List Deed}{k fr to:Int}(h:qq d l fr to k=0):eH d l k fr to=uF d l k fr to:=by
 obtain⟨hc,⟨⟨a,b,c⟩,e,f⟩,_⟩:=zA h;unfold eH uF;have:∀ L:List Int,(∀ x∈L,fr≤x∧x≤to)→(L.flatMap fun h=>(oX d l h k).map (fnd d h))=L.flatMap fun h=>(((k9 d (qo d l h k)).filterMap (opn d h)).foldl yC []).map (fnd d h):=fun L=>by
  induction L with
  |nil=>intro _;rfl
  |cons x L ih=>
   intro hL;have hx:=hL x (by simp);rw[List.flatMap_cons,List.flatMap_cons,ih fun y hy=>hL y (by simp[hy])];congr 2
   unfold oX fT;rw[(xX d l x k).2,if_neg (by simp[hc]),if_pos (by omega)]
 exact this _ fun x hx=>tB.1 hx
theorem FK {d:District}{l:List Deed}{k fr to:Int}{F:List ClaimsFound}(h:qq d l fr to k=0)(hF:uF d l k fr to=F)(h1:decide (4096< (F.filterMap ofF).length)=false):aQ d l fr to k=(F.filterMap ofF,0):=by
 rw[(rM d l fr to k).2];unfold lim ofL;rw[CK h,hF,if_pos h,if_neg (of_decide_eq_false h1)]
theorem FL {d:District}{l:List Deed}{k fr to:Int}{F:List ClaimsFound}(h:qq d l fr to k=0)(hF:uF d l k fr to=F)(h1:decide (4096< (F.filterMap blF).length)=false):al d l fr to k=(F.filterMap blF,0):=by
 rw[(vg d l fr to k).2];unfold lim blL;rw[CK h,hF,if_pos h,if_neg (of_decide_eq_false h1)]
abbrev CL (h:Int):Claim:= { right:=0,farm:=0,hour:=h,litres:=5,rank:=7}
theorem ex1:qq df [] 0 3 0=0:=by kernel_rfl
theorem ex2:uF df [] 0 0 3=[{ claim:=CL 0,reach:=1},{ claim:=CL 2,reach:=1}]:=by kernel_rfl
theorem ex3:qq cr [] 0 3 0=0:=by kernel_rfl
theorem ex4:uF cr [] 0 0 3=[{ claim:=CL 0,reach:=1},{ claim:=CL 2,reach:= -1}]:=by kernel_rfl
theorem s19:cB=([],0):=FK ex1 ex2 kr
theorem s17:cC=([{ right:=0,farm:=0,hour:=0,reach:=1},{ right:=0,farm:=0,hour:=2,reach:=1}],0):=FL ex1 ex2 kr
theorem s20:cA=([],1):=by
 have h:qq df [] 0 4 0=1:=by kernel_rfl
 unfold cA;rw[(rM _ _ _ _ _).2];unfold lim;rw[h];rfl
theorem s11:cD=([CL 2],0):=FK ex3 ex4 kr
theorem s9:cT=([{ right:=0,farm:=0,hour:=0,reach:=1}],0):=FL ex3 ex4 kr
theorem s10:dC=[CL 2]:=by unfold dC;rw[s11]
theorem s2:eV=[CL 2,CL 2]:=by unfold eV;rw[s10];rfl
theorem s3:di=0:=by unfold di;rw[s10];kernel_rfl
theorem s7:dP=260:=by kernel_rfl
theorem s1:fI=260:=by unfold fI;rw[s2];kernel_rfl
theorem s16:fV=[{ right:=0,farm:=0,hour:=0,reach:=1},{ right:=0,farm:=0,hour:=2,reach:=1}]:=by unfold fV;rw[s17]
theorem s8:gC=[{ right:=0,farm:=0,hour:=0,reach:=1}]:=by unfold gC;rw[s9]
theorem s13:dW=true:=by unfold dW;rw[s16];exact x9 _
theorem s6:fH=true:=by unfold fH;rw[s10];exact G9 _
theorem s15:dg=0:=by unfold dg fU;rw[s19];rfl
theorem Ps:ko=true:=by
 unfold ko;rw[s19,s17,s20,s11,s9,s3,s7,s1,s13,s6,s15,s8,x9];rfl
theorem CN:jS:=by
 unfold jS iU ij iT iS;refine⟨⟨by omega,of_decide_eq_true kr⟩,(rM _ _ _ _ _).1,(vg _ _ _ _ _).1,(rM _ _ _ _ _).1,?_,fun _=>⟨(rM _ _ _ _ _).1,(vg _ _ _ _ _).1,?_⟩⟩
 ·exact nbl kr
 ·simp only[JO,Mr,Pr,true_and,and_true,implies_true,true_imp_iff];intro _;rw[s2];exact nbl kr
def mF (x:Right)(h_:Int):Bool:=(((((x.kind==1)&&(decide (x.every > 0)))&&(decide (h_≥x.since)))&&(decide (h_≤x.to)))&&(decide ((Int.tmod (i64.wrap (h_ - x.since)) x.every) <x.length)))
def oJ (x:Right)(h_:Int):Prop:=(((((x.kind==1)&&(decide (x.every > 0)))&&(decide (h_≥x.since)))&&(decide (h_≤x.to)))=true→x.every≠0)
@[go_sem] def tL:List SV→Option Con:=(pD .right fun x=>(pI fun h_=>(pE (.det (oJ x h_) (.v (.bool (mF x h_)))))))
theorem yE:FnOk Tryz.prog 22 tL:=by
 have hG:ConsOk Tryz.prog (mkG [] []):=aw cg0 cg0;refine aZ [.o] mixed an hG (fn:=Tryz.f22) (c:=ae Tryz.f22) kr kr kr kr (a7 fun x=>(b_ fun h_=>(aF (fun hp=>?_))));dsimp only[aD]at hp;unfold oJ at hp;refine⟨nbl rfl,L0,ai _,?_⟩
 ·unfold ae Tryz.f22;try unfold mF
  exact zq1
end Go.Sx
end
section
namespace Go.Sx
@[go_sem] theorem TF {te:TI}{nx:Nat}{h:List Ob}{s:SV}:iA te nx h [.any,s]=.bad:=(rfl)
@[go_sem] theorem V3 {t:Tag}{f:List t.T→List SV→Option Con}{l:List SV}:pR t f (.any::l)=none:=(rfl)
end Go.Sx
end
section
namespace Go.Sx
open Go.Proofs
open IntKind (i64)
@[go_sem] def bw (a0:District)(a1:List Deed)(a2:Int)(a3:Int)(a4:Int)(k_0:Nat)(s_0:List (Claim×Bool)):Empty⊕(List (Claim×Bool)):=.inr (eA .claim .bool s_0 (((aQ a0 a1 a2 a3 a4).1).getD k_0 (default:Claim)) true)
@[go_sem] def bJ (a0:District)(a1:List Deed)(a2:Int)(a3:Int)(a4:Int)(k_1:Nat)(s_1:List (Block×Bool)):Empty⊕(List (Block×Bool)):=.inr (eA .block .bool s_1 ({ right:=(((al a0 a1 a2 a3 a4).1).getD k_1 (default:Block)).right,farm:=(((al a0 a1 a2 a3 a4).1).getD k_1 (default:Block)).farm,hour:=(((al a0 a1 a2 a3 a4).1).getD k_1 (default:Block)).hour,reach:=0}:Block) true)
@[go_sem] def dX (a0:District)(a1:List Deed)(a4:Int)(s_0:List (Claim×Bool))(s_1:List (Block×Bool))(s_2:Int×Int)(k_3:Nat)(s_3:Int):Unit⊕Int:=(bif((decide ((((ag a0 a1 s_2.2 a4).1).getD k_3 (default:Holding)).right<0)) ||(decide ((((ag a0 a1 s_2.2 a4).1).getD k_3 (default:Holding)).right≥(a0.rights.length:Int))))then .inl ()else(bif(!(mF (a0.rights.getD (Int.toNat ((((ag a0 a1 s_2.2 a4).1).getD k_3 (default:Holding)).right)) (default:Right)) s_2.2))then .inr s_3 else(bif((bL .claim .bool s_0 ({ right:=(((ag a0 a1 s_2.2 a4).1).getD k_3 (default:Holding)).right,farm:=(((ag a0 a1 s_2.2 a4).1).getD k_3 (default:Holding)).farm,hour:=s_2.2,litres:=(((ag a0 a1 s_2.2 a4).1).getD k_3 (default:Holding)).litres,rank:=(((ag a0 a1 s_2.2 a4).1).getD k_3 (default:Holding)).rank}:Claim)) ==(bL .block .bool s_1 ({ right:=(((ag a0 a1 s_2.2 a4).1).getD k_3 (default:Holding)).right,farm:=(((ag a0 a1 s_2.2 a4).1).getD k_3 (default:Holding)).farm,hour:=s_2.2,reach:=0}:Block)))then .inl ()else .inr (i64.wrap (s_3+1)))))
def gL (a0:District)(a1:List Deed)(a4:Int)(s_0:List (Claim×Bool))(s_1:List (Block×Bool))(s_2:Int×Int)(k_3:Nat)(s_3:Int):Prop:=(((decide ((((ag a0 a1 s_2.2 a4).1).getD k_3 (default:Holding)).right<0)) ||(decide ((((ag a0 a1 s_2.2 a4).1).getD k_3 (default:Holding)).right≥(a0.rights.length:Int))))=false→((0≤(((ag a0 a1 s_2.2 a4).1).getD k_3 (default:Holding)).right∧(((ag a0 a1 s_2.2 a4).1).getD k_3 (default:Holding)).right< (a0.rights.length:Int))∧(oJ (a0.rights.getD (Int.toNat ((((ag a0 a1 s_2.2 a4).1).getD k_3 (default:Holding)).right)) (default:Right)) s_2.2)))
@[go_sem] def dY (a0:District)(a1:List Deed)(a3:Int)(a4:Int)(s_0:List (Claim×Bool))(s_1:List (Block×Bool))(k_2:Nat)(s_2:Int×Int):(Unit⊕Int)⊕(Int×Int):=(bif(decide (s_2.2≤a3))then(bif((ag a0 a1 s_2.2 a4).2 !=0)then .inl (.inl ())else(match ap (dX a0 a1 a4 s_0 s_1 s_2) (((ag a0 a1 s_2.2 a4).1).length) 0 s_2.1 with| .inl x_3_0=>.inl (.inl ()) | .inr s_3=>.inr (s_3,(i64.wrap (s_2.2+1)))))else .inl (.inr s_2.1))
def fh (a0:District)(a1:List Deed)(a3:Int)(a4:Int)(s_0:List (Claim×Bool))(s_1:List (Block×Bool))(k_2:Nat)(s_2:Int×Int):Prop:=((decide (s_2.2≤a3))=true→((iR a0 a1 s_2.2 a4)∧(((ag a0 a1 s_2.2 a4).2 !=0)=false→(((ag a0 a1 s_2.2 a4).1).length≤bo→okI (dX a0 a1 a4 s_0 s_1 s_2) (gL a0 a1 a4 s_0 s_1 s_2) (((ag a0 a1 s_2.2 a4).1).length) 0 s_2.1))))
def fa (a0:District)(a1:List Deed)(a2:Int)(a3:Int)(a4:Int):Bool:=(bif(!ko)then false else(bif(!(lZ a0 a1 a2 a3))then true else(bif(((aQ a0 a1 a2 a3 a4).2 !=0) ||((al a0 a1 a2 a3 a4).2 !=0))then((((aQ a0 a1 a2 a3 a4).2==0) ||((((aQ a0 a1 a2 a3 a4).1).length:Int) ==0))&&(((al a0 a1 a2 a3 a4).2==0) ||((((al a0 a1 a2 a3 a4).1).length:Int) ==0)))else(match ap (bw a0 a1 a2 a3 a4) (((aQ a0 a1 a2 a3 a4).1).length) 0 ([])with| .inl x=>x.elim| .inr s_0=>(match ap (bJ a0 a1 a2 a3 a4) (((al a0 a1 a2 a3 a4).1).length) 0 ([])with| .inl x=>x.elim| .inr s_1=>(match ap (dY a0 a1 a3 a4 s_0 s_1) 4098 0 (0,a2)with| .inl (.inl x_2_0) =>false| .inl (.inr x_2_1) =>((((s_0.length:Int) ==(((aQ a0 a1 a2 a3 a4).1).length:Int))&&((s_1.length:Int) ==(((al a0 a1 a2 a3 a4).1).length:Int)))&&(x_2_1==(i64.wrap ((((aQ a0 a1 a2 a3 a4).1).length:Int)+(((al a0 a1 a2 a3 a4).1).length:Int))))) | .inr s_2=>default))))))
def d_ (a0:District)(a1:List Deed)(a2:Int)(a3:Int)(a4:Int):Prop:=((jS)∧((!ko)=false→((!(lZ a0 a1 a2 a3))=false→((ig a0 a1 a2 a3 a4)∧((e_ a0 a1 a2 a3 a4)∧((((aQ a0 a1 a2 a3 a4).2 !=0) ||((al a0 a1 a2 a3 a4).2 !=0))=false→(((aQ a0 a1 a2 a3 a4).1).length≤bo→(∀ s_0,ap (bw a0 a1 a2 a3 a4) (((aQ a0 a1 a2 a3 a4).1).length) 0 ([])=.inr s_0→(((al a0 a1 a2 a3 a4).1).length≤bo→(∀ s_1,ap (bJ a0 a1 a2 a3 a4) (((al a0 a1 a2 a3 a4).1).length) 0 ([])=.inr s_1→(okI (dY a0 a1 a3 a4 s_0 s_1) (fh a0 a1 a3 a4 s_0 s_1) 4098 0 (0,a2)∧(∀ z_,ap (dY a0 a1 a3 a4 s_0 s_1) 4098 0 (0,a2)≠ .inr z_))))))))))))
@[go_sem] def jk:List SV→Option Con:=(pD .district fun a0=>(pR .deed fun a1=>(pI fun a2=>(pI fun a3=>(pI fun a4=>(pE (.det (d_ a0 a1 a2 a3 a4) (.v (.bool (fa a0 a1 a2 a3 a4))))))))))
theorem qW:FnOk Tryz.prog 5 jk:=by
 have hG:ConsOk Tryz.prog (mkG [(10,tK),(11,fun l=>uY (du [.st .district,.sl .deed,.o,.o] l)),(12,fun l=>ql (du [.st .district,.sl .deed,.o,.o,.o] l)),(14,fun l=>km (du [.st .district,.sl .deed,.o,.o,.o] l)),(21,fun l=>kC (du [.st .district,.sl .deed,.o,.o] l)),(22,tL)] []):=aw (cgc yD (cgc (Ax.norm [.st .district,.sl .deed,.o,.o]) (cgc (tC.norm [.st .district,.sl .deed,.o,.o,.o]) (cgc (nc.norm [.st .district,.sl .deed,.o,.o,.o]) (cgc (qj.norm [.st .district,.sl .deed,.o,.o]) (cgc yE cg0)))))) cg0;refine aZ [.o] mixed an hG (fn:=Tryz.f5) (c:=ae Tryz.f5) kr kr kr kr (a7 fun a0=>(d7 fun a1=>(b_ fun a2=>(b_ fun a3=>(b_ fun a4=>(aF (fun hp=>?_)))))));dsimp only[aD]at hp;unfold d_ at hp;refine⟨nbl rfl,(fun id st=>bif Nat.beq id 0 then some (LCR (ρ:=Empty) (σ:=(List (Claim×Bool))) 5 [] [0,1,2,3,4] (fun k_0 s_0=>⟨[(1,.rs .deed a1),(2,.v (.int .i64 a2)),(3,.v (.int .i64 a3)),(4,.v (.int .i64 a4)),(5,.ptr 0 0),(11,.os 1),(13,.os 2),(15,.os 3),(16,.os 4),(77,.os 1),(78,.v (.int .i64 (((aQ a0 a1 a2 a3 a4).1).length:Int))),(79,.v (.int .i64 (k_0:Int)))],[.cells (cellsOf .district a0),.row .claim ((aQ a0 a1 a2 a3 a4).1),.row .block ((al a0 a1 a2 a3 a4).1),.mp .claim .bool s_0 none,.mp .block .bool ([]) none]⟩) (bw a0 a1 a2 a3 a4) pT (((aQ a0 a1 a2 a3 a4).1).length) ([]) (((aQ a0 a1 a2 a3 a4).1).length≤bo) ((·.elim)) ((·.elim)) st)else bif Nat.beq id 2 then some (LCR (ρ:=Empty) (σ:=(List (Block×Bool))) 5 [] [0,1,2,3,4] (fun k_1 s_1=>⟨[(1,.rs .deed a1),(2,.v (.int .i64 a2)),(3,.v (.int .i64 a3)),(4,.v (.int .i64 a4)),(5,.ptr 0 0),(11,.os 1),(13,.os 2),(15,.os 3),(16,.os 4),(86,.os 2),(87,.v (.int .i64 (((al a0 a1 a2 a3 a4).1).length:Int))),(88,.v (.int .i64 (k_1:Int)))],[.cells (cellsOf .district a0),.row .claim ((aQ a0 a1 a2 a3 a4).1),.row .block ((al a0 a1 a2 a3 a4).1),.mp .claim .bool (dy (ap (bw a0 a1 a2 a3 a4) (((aQ a0 a1 a2 a3 a4).1).length) 0 ([]))) none,.mp .block .bool s_1 none]⟩) (bJ a0 a1 a2 a3 a4) pT (((al a0 a1 a2 a3 a4).1).length) ([]) (((al a0 a1 a2 a3 a4).1).length≤bo) ((·.elim)) ((·.elim)) st)else bif Nat.beq id 4 then some (LCV (ρ:=(Unit⊕Int)) (σ:=(Int×Int)) 5 [] [0,1,2,3,4] (fun k_2 s_2=>⟨[(1,.rs .deed a1),(3,.v (.int .i64 a3)),(4,.v (.int .i64 a4)),(5,.ptr 0 0),(11,.os 1),(13,.os 2),(15,.os 3),(16,.os 4),(21,.v (.int .i64 s_2.1)),(22,.v (.int .i64 s_2.2))],[.cells (cellsOf .district a0),.row .claim ((aQ a0 a1 a2 a3 a4).1),.row .block ((al a0 a1 a2 a3 a4).1),.mp .claim .bool (dy (ap (bw a0 a1 a2 a3 a4) (((aQ a0 a1 a2 a3 a4).1).length) 0 ([]))) none,.mp .block .bool (dy (ap (bJ a0 a1 a2 a3 a4) (((al a0 a1 a2 a3 a4).1).length) 0 ([]))) none]⟩) (dY a0 a1 a3 a4 (dy (ap (bw a0 a1 a2 a3 a4) (((aQ a0 a1 a2 a3 a4).1).length) 0 ([]))) (dy (ap (bJ a0 a1 a2 a3 a4) (((al a0 a1 a2 a3 a4).1).length) 0 ([])))) (fh a0 a1 a3 a4 (dy (ap (bw a0 a1 a2 a3 a4) (((aQ a0 a1 a2 a3 a4).1).length) 0 ([]))) (dy (ap (bJ a0 a1 a2 a3 a4) (((al a0 a1 a2 a3 a4).1).length) 0 ([])))) 4098 (0,a2) (fun x=>match x with|(.inl _) =>.ret|(.inr _) =>.normal) (fun x=>match x with|(.inl x_2_0) =>⟨[(10,.v (.bool false))],[.dead,.dead,.dead,.dead,.dead]⟩ |(.inr x_2_1) =>⟨[(11,.os 1),(13,.os 2),(15,.os 3),(16,.os 4),(21,.v (.int .i64 x_2_1))],[.dead,.row .claim ((aQ a0 a1 a2 a3 a4).1),.row .block ((al a0 a1 a2 a3 a4).1),.mp .claim .bool (dy (ap (bw a0 a1 a2 a3 a4) (((aQ a0 a1 a2 a3 a4).1).length) 0 ([]))) none,.mp .block .bool (dy (ap (bJ a0 a1 a2 a3 a4) (((al a0 a1 a2 a3 a4).1).length) 0 ([]))) none]⟩) st)else none),?_,?_⟩
 ·unfold ae Tryz.f5;simp only[am,true_and,and_true];refine⟨?_,?_,?_⟩
  ·refine cL mixed an hG kr (fun _=>rfl) (((aQ a0 a1 a2 a3 a4).1).length:Int) rfl gY (fun hb0 k_0 s_0 hlt0 _ hw hc=>⟨L0,ai _,?_⟩) (fun hb0 s_0 hc=>?_)
   ·exact bZ (jl [0,1,2,3,4])
   ·exact b6 (jl [0,1,2,3,4])
  ·refine cL mixed an hG kr (fun _=>rfl) (((al a0 a1 a2 a3 a4).1).length:Int) rfl gY (fun hb1 k_1 s_1 hlt1 _ hw hc=>⟨L0,ai _,?_⟩) (fun hb1 s_1 hc=>?_)
   ·exact bZ (jl [0,1,2,3,4])
   ·exact b6 (jl [0,1,2,3,4])
  ·refine eK mixed an hG kr (fun _=>rfl) fun k_2 s_2 hq2=>⟨(fun id st=>bif Nat.beq id 6 then some (LCR (ρ:=Unit) (σ:=Int) 6 [] [0,1,2,3,4,5] (fun k_3 s_3=>⟨[(1,.rs .deed a1),(3,.v (.int .i64 a3)),(4,.v (.int .i64 a4)),(5,.ptr 0 0),(11,.os 1),(13,.os 2),(15,.os 3),(16,.os 4),(21,.v (.int .i64 s_3)),(22,.v (.int .i64 s_2.2)),(112,.os 5),(113,.v (.int .i64 (((ag a0 a1 s_2.2 a4).1).length:Int))),(114,.v (.int .i64 (k_3:Int)))],[.cells (cellsOf .district a0),.row .claim ((aQ a0 a1 a2 a3 a4).1),.row .block ((al a0 a1 a2 a3 a4).1),.mp .claim .bool (dy (ap (bw a0 a1 a2 a3 a4) (((aQ a0 a1 a2 a3 a4).1).length) 0 ([]))) none,.mp .block .bool (dy (ap (bJ a0 a1 a2 a3 a4) (((al a0 a1 a2 a3 a4).1).length) 0 ([]))) none,.row .holding ((ag a0 a1 s_2.2 a4).1)]⟩) (dX a0 a1 a4 (dy (ap (bw a0 a1 a2 a3 a4) (((aQ a0 a1 a2 a3 a4).1).length) 0 ([]))) (dy (ap (bJ a0 a1 a2 a3 a4) (((al a0 a1 a2 a3 a4).1).length) 0 ([]))) s_2) (gL a0 a1 a4 (dy (ap (bw a0 a1 a2 a3 a4) (((aQ a0 a1 a2 a3 a4).1).length) 0 ([]))) (dy (ap (bJ a0 a1 a2 a3 a4) (((al a0 a1 a2 a3 a4).1).length) 0 ([]))) s_2) (((ag a0 a1 s_2.2 a4).1).length) s_2.1 (((ag a0 a1 s_2.2 a4).1).length≤bo) (fun _=>.ret) (fun x_3_0=>⟨[(10,.v (.bool false))],[.dead,.dead,.dead,.dead,.dead,.dead]⟩) st)else none),?_,?_⟩
   ·simp only[am,true_and,and_true]
    ·refine cL mixed an hG kr (fun _=>rfl) (((ag a0 a1 s_2.2 a4).1).length:Int) rfl gY (fun hb3 k_3 s_3 hlt3 hq3 hw hc=>⟨L0,ai _,?_⟩) (fun hb3 s_3 hc=>?_)
     ·unfold gL at hq3;try simp only[hw,Int.toNat_natCast]at hq3
      exact bZ (jl [0,1,2,3,4,5])
     ·exact b6 (jl [0,1,2,3,4,5])
   ·unfold fh at hq2;exact cJ (jl [0,1,2,3,4])
 ·unfold ae Tryz.f5;try unfold fa
  simp only[go_sem,Nat.reduceBEq,Nat.reduceLeDiff,Nat.reduceLT,decide_true,Nat.reduceAdd,Nat.reduceSub,Nat.reduceMul,Int.reduceLE,Int.reduceLT,Int.reduceToNat,Int.reduceNeg,reduceCtorEq]
  repeat' (first|(exact Empty.elim (by assumption)) |with_reducible refine And.intro ?_ ?_|((with_reducible show _≠_);first|assumption|omega|(simp_all [dy,fj];done) |grind) |with_reducible intro _)
  any_goals (first|done|assumption|rfl|omega|exact cl|(simp_all only[Iu,Iv,Sum.inr.injEq,Sum.inl.injEq,forall_eq',forall_const,true_imp_iff,cond_true,cond_false,and_self];done))
  all_goals (rename_i x_ hx_;cases x_)
  all_goals simp only[go_sem,Nat.reduceBEq,Nat.reduceLeDiff,Nat.reduceLT,decide_true,Nat.reduceAdd,Nat.reduceSub,Nat.reduceMul,Int.reduceLE,Int.reduceLT,Int.reduceToNat,Int.reduceNeg,reduceCtorEq]
  all_goals exact cl
theorem JP {κ υ:Type}[DecidableEq κ]{l:List (κ×υ)}(h:(ew l).Nodup)(x:κ)(y:υ)(z:κ):z∈ew (qK l x y)↔z=x∨z∈ew l:=by
 refine⟨(kn x y l h).2 z,fun hz=>Classical.byContradiction fun hn=>?_⟩;have h1:=uC hn;rw[DZ]at h1;by_cases hx:z=x
 ·rw[if_pos hx]at h1;cases h1
 ·rw[if_neg hx]at h1;have hz:=hz.resolve_left hx;unfold ew at hz;rw[List.mem_map]at hz;obtain⟨⟨a,b⟩,hm,rfl⟩:=hz;rw[(tG h).2 hm]at h1;cases h1
theorem FM {kk:Tag}{α:Type}(L:List α)(d:α)(key:α→kk.T){step:Nat→List (kk.T×Bool)→Empty⊕List (kk.T×Bool)}(h:∀ k s,k<L.length→step k s=.inr (eA kk .bool s (key (L.getD k d)) true)):
  ∃ m:List (kk.T×Bool),ap step L.length 0 []=.inr m∧(∀ x,bL kk .bool m x=true↔x∈L.map key)∧((L.map key).Nodup→m.length=L.length)∧(ew m).Nodup∧∀ x,x∈ew m↔x∈L.map key:=by
 obtain⟨m,h1,h2,h3,h4⟩:=lT (step:=step) (fun k m=>(ew m).Nodup∧(∀ x,x∈ew m↔x∈(L.take k).map key)∧∀ x,bL kk .bool m x=true↔x∈(L.take k).map key) L.length 0 [] ⟨List.nodup_nil,fun x=>by simp[ew],fun x=>by simp[bL,eP];rfl⟩ (fun j s _ hj ⟨a,b,c⟩ =>by
  rw[Nat.zero_add]at hj;refine⟨_,h j s hj,(kn _ _ _ a).1,fun x=>?_,fun x=>?_⟩
  ·rw[ce L d hj,List.map_append,List.mem_append,←b];refine(JP a _ _ x).trans ?_;simp only[List.map_cons,List.map_nil,List.mem_singleton];exact Or.comm
  ·rw[jp,ce L d hj,List.map_append,List.mem_append,←c];simp only[List.map_cons,List.map_nil,List.mem_singleton];by_cases hx:x=key (L.getD j d)
   ·rw[if_pos hx];exact⟨fun _=>.inr hx,fun _=>rfl⟩
   ·rw[if_neg hx];exact⟨.inl,fun hh=>hh.resolve_right hx⟩)
 rw[Nat.zero_add,List.take_length]at h3 h4;refine⟨m,h1,h4,fun hn=>?_,h2,h3⟩;have:=(FG h2 hn h3).length_eq;unfold ew at this
 rwa[List.length_map,List.length_map]at this
theorem FN {α:Type}{e:Int}{l:List α}(h:(lim e l).2≠0):(lim e l).1=[]:=by
 unfold lim at h ⊢;by_cases he:e=0
 ·rw[if_pos he]at h ⊢;by_cases hb:4096<l.length
  ·rw[if_pos hb]
  ·rw[if_neg hb]at h;exact absurd rfl h
 ·rw[if_neg he]
theorem JQ {α:Type}{e:Int}{l:List α}(h:(lim e l).2=0):e=0∧l.length≤4096∧lim e l=(l,0):=by
 unfold lim at h ⊢;by_cases he:e=0
 ·rw[if_pos he]at h ⊢;by_cases hb:4096<l.length
  ·rw[if_pos hb]at h;cases h
  ·rw[if_neg hb];exact⟨he,by omega,rfl⟩
 ·rw[if_neg he]at h;exact absurd h he
theorem CO:∀ L:List ClaimsFound,(L.filterMap ofF).length+(L.filterMap blF).length=L.length
 | [] =>rfl
 |x::L=>by
  have ih:=CO L;by_cases h:x.reach<0
  ·have e1:ofF x=some x.claim:=by unfold ofF;rw[if_pos h]
   have e2:blF x=none:=by unfold blF;rw[if_neg (by omega)]
   rw[List.filterMap_cons_some e1,List.filterMap_cons_none e2,List.length_cons,List.length_cons];omega
  ·have e1:ofF x=none:=by unfold ofF;rw[if_neg h]
   have e2:∃ b,blF x=some b:=by unfold blF;rw[if_pos (show 0≤x.reach by omega)];exact⟨_,rfl⟩
   obtain⟨b,e2⟩:=e2;rw[List.filterMap_cons_none e1,List.filterMap_cons_some e2,List.length_cons,List.length_cons];omega
theorem Ms {d:District}{x:Right}{h:Int}(ht:TakeR d x)(hk:x.kind=1)(h0:0≤h)(h1:h<4096):mF x h=CH x h:=by
 have:=ht.since0;have:=ht.every;unfold mF CH;rw[show(x.kind==1)=true by rw[hk];rfl,decide_eq_true (show x.every > 0 by omega)];simp only[Bool.true_and];by_cases hs:x.since≤h
 ·rw[bq (by omega) (by omega),decide_eq_true hs]
 ·rw[decide_eq_false hs];try rfl
def FO (b:Block):Block:= { right:=b.right,farm:=b.farm,hour:=b.hour,reach:=0}
def yF (c:Claim):Block:= { right:=c.right,farm:=c.farm,hour:=c.hour,reach:=0}
theorem JR {d:District}{l:List Deed}{k fr to h:Int}{c:Claim}(hh:fr≤h∧h≤to)(hc:c∈fT d l h k):(c∈ofL d l k fr to↔vK d c.farm h<0)∧(yF c∈(blL d l k fr to).map FO↔0≤vK d c.farm h):=by
 have hS:c∈oX d l h k:=(oI d l h k).symm.subset hc;have hC:=mE hS;have e:=hC.hour;subst e;refine⟨⟨fun h1=>(FI.1 h1).2.2,fun h1=>FI.2 ⟨hh,hS,h1⟩⟩,⟨fun h1=>?_,fun h1=>?_⟩⟩
 ·obtain⟨b,hb,e⟩:=List.mem_map.1 h1;obtain⟨c',_,_,hf,rfl⟩:=FJ.1 hb;unfold FO yF at e;simp only[Block.mk.injEq]at e;rw[←e.2.1,←e.2.2.1];exact hf
 ·exact List.mem_map.2 ⟨_,FJ.2 ⟨c,hh,hS,h1,rfl⟩,rfl⟩
theorem Ek {l:List Claim}(h:l.Pairwise kh):l.Nodup:=h.imp fun {a b} hab e=>by subst e;exact JH _ hab
theorem A0 (d:District)(l:List Deed)(k fr to:Int):(eH d l k fr to).Pairwise fun x y=>yF x.claim≠yF y.claim:=by
 unfold eH;refine Fx (Jk fr to) (fun h _=>?_) fun a _ b _ hab x hx y hy=>?_
 ·rw[List.pairwise_map];have h1:(oX d l h k).Pairwise fun a b=>¬ (a.right=b.right∧a.farm=b.farm):=
   ((oI d l h k).symm.pairwise (qp d l h k) fun {a b} h e=>h ⟨e.1.symm,e.2.symm⟩)
  refine h1.imp fun {x y} hxy e=>hxy ?_;unfold yF fnd at e;simp only[Block.mk.injEq]at e;exact⟨e.1,e.2.1⟩
 ·obtain⟨x',hx',rfl⟩:=List.mem_map.1 hx;obtain⟨y',hy',rfl⟩:=List.mem_map.1 hy;have h1:=(mE hx').hour;have h2:=(mE hy').hour;intro e;unfold yF fnd at e;simp only[Block.mk.injEq]at e;omega
theorem JS (d:District)(l:List Deed)(k fr to:Int):((blL d l k fr to).map FO).Nodup:=by
 unfold blL;rw[List.Nodup,List.pairwise_map,List.pairwise_filterMap];refine(A0 d l k fr to).imp fun {x y} hxy a ha b hb e=>hxy ?_;unfold blF at ha hb;split at ha
 ·split at hb
  ·cases ha;cases hb;exact e
  ·cases hb
 ·cases ha
theorem vh (d:District)(l:List Deed)(k:Int){fr h:Int}(hh:fr≤h):(gK d l k fr h).length=(gK d l k fr (h - 1)).length+(fT d l h k).length:=by
 unfold gK;have:=xO (a:=fr) (b:=h - 1) (by omega);rw[show h - 1+1=h by omega]at this;rw[this,List.flatMap_append];simp
theorem CP (d:District)(l:List Deed)(fr to k:Int):d_ d l fr to k∧fa d l fr to k=true:=by
 unfold d_ fa;rw[Ps];by_cases hE:(aQ d l fr to k).2=0∧(al d l fr to k).2=0
 ·obtain⟨hO,hB⟩:=hE;have h1:=hO;have h2:=hB;rw[(rM d l fr to k).2]at h1;rw[(vg d l fr to k).2]at h2;obtain⟨he,hl1,eO⟩:=JQ h1;obtain⟨_,hl2,eB⟩:=JQ h2;rw[←(rM d l fr to k).2]at eO;rw[←(vg d l fr to k).2]at eB;obtain⟨hc,ha,hb⟩:=zA he;have hR:=(qn hc).right;have hfr:=ha.1;have hh:=hR.hours;obtain⟨m0,q1,q2,q3,_⟩:=FM (kk:=.claim) (ofL d l k fr to) default id (step:=bw d l fr to k) (fun j s _=>by unfold bw;rw[eO];rfl);obtain⟨m1,z1,z2,z3,_⟩:=FM (kk:=.block) (blL d l k fr to) default FO (step:=bJ d l fr to k) (fun j s _=>by unfold bJ;rw[eB];rfl);rw[List.map_id]at q2 q3;have q3:=q3 (Ek (Ej d l k fr to));have z3:=z3 (JS d l k fr to);have total:(gK d l k fr to).length=(ofL d l k fr to).length+(blL d l k fr to).length:=by
   rw[(sm d l k fr to).length_eq];exact(CO _).symm
  have inner:∀ (h:Int) (s2:Int×Int),s2.2=h→fr≤h→h≤to→s2.1=((gK d l k fr (h - 1)).length:Int)→ap (dX d l k m0 m1 s2) (ag d l h k).1.length 0 s2.1=.inr (((gK d l k fr h).length:Nat):Int):=fun h s2 e2 b1 b2 e3=>by
   obtain⟨r,r1,r2⟩:=lT (step:=dX d l k m0 m1 s2) (fun j s=>s=(((gK d l k fr (h - 1)).length+(((ag d l h k).1.take j).filterMap (opn d h)).length:Nat):Int)) (ag d l h k).1.length 0 s2.1 (by rw[e3];simp) (fun j s _ hj e=>by
    rw[Nat.zero_add]at hj;obtain⟨⟨⟨a1,a2⟩,a3,a4⟩,ht,hk⟩:=vY hj;have hlen:=nu (ag d l h k).1 (opn d h) j;have hsn:=vh d l k b1;have hbk:(gK d l k fr h).length≤2457600:=qV ha hb (Nat.le_trans sj (Nat.mul_le_mul_right _ (by omega)));rw[ce _ default hj,List.filterMap_append,List.length_append];unfold dX;rw[e2,Ms ht hk a3 a4,decide_eq_false (show ¬ ((ag d l h k).1.getD j default).right<0 by omega),decide_eq_false (show ¬ ((ag d l h k).1.getD j default).right≥(d.rights.length:Int) by omega)];simp only[Bool.or_false,cond_false];cases hop:CH (d.rights.getD (Int.toNat ((ag d l h k).1.getD j default).right) default) h with
    |false=>
     have e0:opn d h ((ag d l h k).1.getD j default)=none:=by unfold opn;rw[if_neg (by rw[hop];simp)]
     refine⟨s,rfl,?_⟩;rw[e,List.filterMap_cons_none e0];simp
    |true=>
     have e0:opn d h ((ag d l h k).1.getD j default)=some { right:=((ag d l h k).1.getD j default).right,farm:=((ag d l h k).1.getD j default).farm,hour:=h,litres:=((ag d l h k).1.getD j default).litres,rank:=((ag d l h k).1.getD j default).rank}:=by unfold opn;rw[if_pos hop]
     have hm:({ right:=((ag d l h k).1.getD j default).right,farm:=((ag d l h k).1.getD j default).farm,hour:=h,litres:=((ag d l h k).1.getD j default).litres,rank:=((ag d l h k).1.getD j default).rank}:Claim)∈fT d l h k:=List.mem_filterMap.2 ⟨_,CJ _ default hj,e0⟩;obtain⟨o1,o2⟩:=JR (fr:=fr) (to:=to) ⟨b1,b2⟩ hm;generalize hcl:({ right:=((ag d l h k).1.getD j default).right,farm:=((ag d l h k).1.getD j default).farm,hour:=h,litres:=((ag d l h k).1.getD j default).litres,rank:=((ag d l h k).1.getD j default).rank}:Claim)=c at hm o1 o2 e0;have hbl:({ right:=((ag d l h k).1.getD j default).right,farm:=((ag d l h k).1.getD j default).farm,hour:=h,reach:=0}:Block)=yF c:=by rw[←hcl];rfl
     have t1:=q2 c;have t2:=z2 (yF c);rw[o1]at t1;rw[o2]at t2;have hne:(bL .claim .bool m0 c==bL .block .bool m1 (yF c))=false:=by
      by_cases hf:vK d c.farm h<0
      ·rw[t1.2 hf];cases hg:bL .block .bool m1 (yF c)with
       |false=>rfl
       |true=>have:=t2.1 hg;omega
      ·rw[t2.2 (by omega)];cases hg:bL .claim .bool m0 c with
       |false=>rfl
       |true=>exact absurd (t1.1 hg) hf
     simp only[Bool.not_true,cond_false];rw[hbl,hne];refine⟨_,rfl,?_⟩;have h6:(fT d l h k)=(ag d l h k).1.filterMap (opn d h):=rfl;have h7:=congrArg List.length h6;rw[e,List.filterMap_cons_some e0,List.filterMap_nil,List.length_singleton,bq (by omega) (by omega)];omega)
   rw[r1,r2,Nat.zero_add,List.take_length,vh d l k b1];rfl
  obtain⟨w1,r,w2,w3⟩:=uB (step:=dY d l to k m0 m1) (p:=fh d l to k m0 m1) (fun s=>(to+1 - s.2).toNat) (fun s=>(fr≤s.2∧s.2≤to+1)∧s.1=((gK d l k fr (s.2 - 1)).length:Int)) (fun r=>r=.inr (((gK d l k fr to).length:Nat):Int)) (fun j s hJ=>by
   obtain⟨many,h⟩:=s;obtain⟨⟨j1,j2⟩,j3⟩:=hJ;simp only at j1 j2 j3;refine⟨fun hle=>⟨(xX d l h k).1,fun _ _=>lM _ _ _ fun i s _ hi=>fun hr=>?_⟩,?_⟩
   ·have hi':i< (ag d l h k).1.length:=by rw[Nat.zero_add]at hi;exact hi
    obtain⟨⟨⟨a1,a2⟩,a3,a4⟩,ht,hk⟩:=vY (d:=d) (l:=l) (h:=h) (k:=k) (j:=i) hi';exact⟨⟨a1,a2⟩,fun _=>(show(d.rights.getD (Int.toNat ((ag d l h k).1.getD i default).right) default).every≠0 from by have:=ht.every;omega)⟩
   ·unfold dY;simp only;by_cases hle:h≤to
    ·have hat:(ag d l h k).2=0:=by rw[(xX d l h k).2,if_neg (by simp[hc]),if_pos ⟨by omega,by omega,ha.2⟩]
     rw[decide_eq_true hle,hat,inner h (many,h) rfl j1 hle j3];refine .inr ⟨_,rfl,?_⟩;simp only;rw[bq (by omega) (by omega),show h+1 - 1=h by omega];exact⟨by omega,⟨by omega,by omega⟩,rfl⟩
    ·rw[decide_eq_false hle];refine .inl ⟨_,rfl,?_⟩;rw[j3,show h - 1=to by omega]) 4098 0 (0,fr) ⟨⟨Int.le_refl _,by simp only;omega⟩,by simp only;unfold gK;rw[Fv (by omega)];rfl⟩ (by simp only;omega)
  subst w3;rw[eO,eB,q1,z1];simp only;refine⟨⟨CN,fun _ _=>⟨(rM _ _ _ _ _).1,(vg _ _ _ _ _).1,fun _ _ s0 hs0 _ s1 hs1=>?_⟩⟩,?_⟩
  ·cases hs0;cases hs1;exact⟨w1,fun z hz=>by rw[w2]at hz;cases hz⟩
  ·rw[w2];simp only;rw[q3,z3,total,bq (by omega) (by omega)];simp only[Bool.not_true,cond_false,bne_self_eq_false,Bool.or_false];cases lZ d l fr to with
   |false=>rfl
   |true=>simp
 ·have hne:(((aQ d l fr to k).2 !=0) ||((al d l fr to k).2 !=0))=true:=by
   rw[Bool.or_eq_true,bne_iff_ne,bne_iff_ne];by_cases h1:(aQ d l fr to k).2=0
   ·exact .inr fun h2=>hE ⟨h1,h2⟩
   ·exact .inl h1
  rw[hne];refine⟨⟨CN,fun _ _=>⟨(rM _ _ _ _ _).1,(vg _ _ _ _ _).1,fun h=>by cases h⟩⟩,?_⟩;simp only[Bool.not_true,cond_false,cond_true];cases lZ d l fr to with
  |false=>rfl
  |true=>
   simp only[Bool.not_true,cond_false];have g1:(((aQ d l fr to k).2==0) ||((((aQ d l fr to k).1).length:Int) ==0))=true:=by
    by_cases h:(aQ d l fr to k).2=0
    ·rw[h];rfl
    ·rw[(rM d l fr to k).2]at h ⊢;rw[FN h];simp
   have g2:(((al d l fr to k).2==0) ||((((al d l fr to k).1).length:Int) ==0))=true:=by
    by_cases h:(al d l fr to k).2=0
    ·rw[h];rfl
    ·rw[(vg d l fr to k).2]at h ⊢;rw[FN h];simp
   rw[g1,g2];rfl
theorem Pt (d:District)(l:List Deed)(fr to k:Int)(_: -9223372036854775808≤fr∧fr≤9223372036854775807)(_: -9223372036854775808≤to∧to≤9223372036854775807)(_: -9223372036854775808≤k∧k≤9223372036854775807):d_ d l fr to k:=(CP d l fr to k).1
theorem Pu (d:District)(l:List Deed)(fr to k:Int)(_: -9223372036854775808≤fr∧fr≤9223372036854775807)(_: -9223372036854775808≤to∧to≤9223372036854775807)(_: -9223372036854775808≤k∧k≤9223372036854775807):fa d l fr to k=true:=(CP d l fr to k).2
end Go.Sx
end
section
namespace Go.Sx
open Go.Deep Go.RowKit
section
variable {F:Nat→Prop}{own:Own}{w:World}
def RC (F:Nat→Prop)(own:Own)(w:World)(ks:List Kd)(cs:List Value):Prop:=
 ∃ l:List SV,ny ks l=true∧l.length=cs.length∧∀ (j:Nat) (s:SV) (v:Value),l[j]? =some s→cs[j]? =some v→Rel F own w s v
theorem CQ:∀ {a b:List Kd} {l m:List SV},ny a l=true→ny b m=true→ny (a++b) (l++m)=true
 | [],b,l,m,h1,h2=>by rw[nH h1];exact h2
 |k::a,b,l,m,h1,h2=>by
  obtain⟨x,r,rfl,e1,e2⟩:=jZ h1;simp only[List.cons_append,ny,e1,CQ e2 h2,Bool.and_self]
theorem RC.nil:RC F own w [] []:=⟨[],rfl,rfl,fun j s v h=>by cases h⟩
theorem RC.app {a b:List Kd}{c d:List Value}(h1:RC F own w a c)(h2:RC F own w b d):RC F own w (a++b) (c++d):=by
 obtain⟨l,f1,n1,r1⟩:=h1;obtain⟨m,f2,n2,r2⟩:=h2;refine⟨l++m,CQ f1 f2,by simp[n1,n2],fun j s v hs hv=>?_⟩;by_cases hj:j<l.length
 ·rw[List.getElem?_append_left hj]at hs;rw[List.getElem?_append_left (by omega)]at hv;exact r1 j s v hs hv
 ·rw[List.getElem?_append_right (by omega)]at hs;rw[List.getElem?_append_right (by omega),←n1]at hv;exact r2 _ s v hs hv
theorem RC.one {k:Kd}{s:SV}{v:Value}(h1:fit k s=true)(h2:Rel F own w s v):RC F own w [k] [v]:=
 ⟨[s],by simp[ny,h1],rfl,fun j s' v' hs hv=>by
  cases j with
  |zero=>simp only[List.getElem?_cons_zero,Option.some.injEq]at hs hv;subst hs;subst hv;exact h2
  |succ j=>simp at hs⟩
end
def Pv:Kd→Kd→Bool
 | .s,.s=>true
 | .b,.b=>true
 | .n a,.n b=>decide (a=b)
 | .r a,.r b=>decide (a=b)
 | .m a c,.m b d=>decide (a=b)&&decide (c=d)
 |_,_=>false
theorem Mt:∀ {a b:Kd},Pv a b=true→a=b:=by
 intro a b h;cases a <;>cases b <;>simp_all [Pv]
def JT:List Kd→List Kd→Bool
 | [],[] =>true
 |a::l,b::m=>Pv a b&&JT l m
 |_,_=>false
theorem FP:∀ {a b:List Kd},JT a b=true→a=b
 | [],[],_=>rfl
 |a::l,b::m,h=>by
  simp only[JT,Bool.and_eq_true]at h;rw[Mt h.1,FP h.2]
def ya (P:Program)(g:TypeId→Option (List Kd)):List Field→Nat→Nat→Option (List Kd)
 | [],off,tot=>bif Nat.beq off tot then some []else none
 |f::r,off,tot=>match g f.type with
  |some a=>bif Nat.beq f.offset off&&Nat.beq a.length (P.cellsOf f.type)then(ya P g r (off+a.length) tot).map (a++ ·)else none
  |none=>none
def El (a:List Kd):Nat→List Kd
 |0=>[]
 |n+1=>a++El a n
def yb (P:Program):Nat→TypeId→Option (List Kd)
 |0,_=>none
 |n+1,t=>match P.underlying t with
  |some .bool=>some [.b]
  |some (.int k) =>some [.n k]
  |some .string=>some [.s]
  |some (.slice e) =>match A7 P e,yb P n e with
   |some k,some ks=>bif JT ks (cP k)&&Nat.beq (P.cellsOf e) (aa k)&&Nat.ble 1 (aa k)then some [.r k]else none
   |_,_=>none
  |some (.struct fs) =>ya P (yb P n) fs.toList 0 (P.cellsOf t)
  |some (.array m e) =>match yb P n e with
   |some a=>bif Nat.beq a.length (P.cellsOf e)&&Nat.beq (P.cellsOf t) (m*a.length)then some (El a m)else none
   |none=>none
  |_=>none
section
variable {H:Type}{enc:TypeId×Value→H}{P:Program}{F:Nat→Prop}{own:Own}{w:World}{base:Nat}{spare:Nat→Bool}{held:Bool}{S:DataW H→Prop}
theorem FQ {g:TypeId→Option (List Kd)}(hg:∀ t ks,g t=some ks→∀ (fuel:Nat) (cs:List Value) (x:DataW H×List MemPlace),DataW.trod enc P w base spare held fuel t cs=some x→S x.1→RC F own w ks cs)
  (fuel:Nat) (cs:List Value):∀ (fs:List Field) (off:Nat) (ks:List Kd),ya P g fs off cs.length=some ks→(∀ f∈fs,∃ x,DataW.trod enc P w base spare held fuel f.type ((cs.drop f.offset).take (P.cellsOf f.type))=some x∧S x.1)→RC F own w ks (cs.drop off)
 | [],off,ks,h,_=>by
  unfold ya at h;cases hb:Nat.beq off cs.length with
  |false=>rw[hb]at h;cases h
  |true=>
   rw[hb]at h;have:off=cs.length:=Nat.eq_of_beq_eq_true hb;subst this;cases h;rw[List.drop_length];exact RC.nil
 |f::r,off,ks,h,hx=>by
  unfold ya at h;cases ha:g f.type with
  |none=>rw[ha]at h;cases h
  |some a=>
   rw[ha]at h;dsimp only at h;cases hb:Nat.beq f.offset off&&Nat.beq a.length (P.cellsOf f.type)with
   |false=>rw[hb]at h;cases h
   |true=>
    rw[hb]at h;simp only[cond_true,Option.map_eq_some_iff]at h;obtain⟨ks2,h2,rfl⟩:=h;rw[Bool.and_eq_true]at hb;have e1:f.offset=off:=Nat.eq_of_beq_eq_true hb.1;have e2:a.length=P.cellsOf f.type:=Nat.eq_of_beq_eq_true hb.2;obtain⟨x,hx1,hs1⟩:=hx f (by simp);have h3:=hg _ _ ha _ _ _ hx1 hs1;have h4:=FQ hg fuel cs r (off+a.length) ks2 h2 fun f hf=>hx f (by simp[hf]);have:=h3.app h4;rw[e1,←e2]at this
    rwa[←List.drop_drop,List.take_append_drop]at this
theorem FR {e:TypeId}{a:List Kd}(ha:∀ (fuel:Nat) (cs:List Value) (x:DataW H×List MemPlace),DataW.trod enc P w base spare held fuel e cs=some x→S x.1→RC F own w a cs)
  (fuel:Nat):∀ (m:Nat) (cs:List Value),cs.length=m*a.length→(∀ i,i<m→∃ x,DataW.trod enc P w base spare held fuel e ((cs.drop (i*a.length)).take a.length)=some x∧S x.1)→RC F own w (El a m) cs
 |0,cs,h,_=>by
  have:cs=[]:=by simpa using h
  subst this;exact RC.nil
 |m+1,cs,h,hx=>by
  obtain⟨x,hx1,hs1⟩:=hx 0 (by omega);rw[Nat.zero_mul,List.drop_zero]at hx1;have h3:=ha _ _ _ hx1 hs1;have h4:=FR ha fuel m (cs.drop a.length) (by rw[List.length_drop,h,Nat.succ_mul];omega) fun i hi=>by
   obtain⟨x,hx2,hs2⟩:=hx (i+1) (by omega);refine⟨x,?_,hs2⟩;rw[List.drop_drop]
   rwa[Nat.succ_mul,Nat.add_comm]at hx2
  have:=h3.app h4
  rwa[List.take_append_drop]at this
structure Small (S:DataW H→Prop):Prop where
 agg:∀ l,S (.agg l)→∀ d∈l,S d
 slice:∀ l m,S (.slice l m)→l.length≤bo∧∀ d∈l,S d
theorem mG (hS:Small S)(hown:∀ b,¬bV F own b):∀ (n:Nat) (t:TypeId) (ks:List Kd),yb P n t=some ks→∀ (fuel:Nat) (cs:List Value) (x:DataW H×List MemPlace),DataW.trod enc P w base spare held fuel t cs=some x→S x.1→RC F own w ks cs
 |0,_,_,h,_,_,_,_,_=>by cases h
 |n+1,t,ks,h,fuel,cs,x,hx,hs=>by
  unfold yb at h;split at h
  ·rename_i ht;cases h;obtain⟨b,rfl,rfl⟩:=DataW.trod_bool ht hx;exact RC.one (s:=.v (.bool b)) rfl (.v _)
  ·rename_i k ht;cases h;obtain⟨m,rfl,rfl,_⟩:=DataW.trod_int ht hx;exact RC.one (s:=.v (.int k m)) (by simp[fit]) (.v _)
  ·rename_i ht;cases h;obtain⟨b,rfl,rfl,_⟩:=DataW.trod_string ht hx;exact RC.one (s:=.v (.string b)) rfl (.v _)
  ·rename_i e ht;split at h
   ·rename_i k ks2 hk hks;cases hb:JT ks2 (cP k)&&Nat.beq (P.cellsOf e) (aa k)&&Nat.ble 1 (aa k)with
    |false=>rw[hb]at h;cases h
    |true=>
     rw[hb]at h;cases h;simp only[Bool.and_eq_true]at hb;have e1:=FP hb.1.1;have e2:P.cellsOf e=aa k:=Nat.eq_of_beq_eq_true hb.1.2;have e3:1≤aa k:=nbl hb.2;subst e1;rcases open_slice ht hx with⟨rfl,rfl⟩ | ⟨a,len,cap,m,f2,D,Pl,rfl,hb1,hl,hm,hmm,rfl,hel⟩
     ·exact RC.one (s:=.rs k []) (by simp[fit]) .rs0
     ·have hlm:len≤m:=by subst hmm;split <;>omega
      obtain⟨hs1,hs2⟩:=hS.slice _ _ hs;simp only[List.length_map,List.length_range]at hs1;have helt:∀ i,i<len→∃ cs',cs'.length=aa k∧(∀ j v,cs'[j]? =some v→w.cell? ((a.add (i*aa k)).add j)=some v)∧RC F own w (cP k) cs':=fun i hi=>by
       obtain⟨cs',h1,h2⟩:=hel i (by omega);have h3:=mG hS hown n e (cP k) hks f2 cs' _ h2 (hs2 _ (List.mem_map_of_mem (List.mem_range.2 hi)));unfold World.cells? at h1;split at h1
       ·refine⟨cs',by rw[mapM_some_length h1,List.length_range,e2],fun j v hj=>?_,h3⟩;have hlt:j<P.cellsOf e:=by
         have:=(List.getElem?_eq_some_iff.1 hj).1
         rwa[mapM_some_length h1,List.length_range]at this
        have:=mapM_some_get h1 j j (by simp[hlt]);rw[e2]at this;rw[this,hj]
       ·cases h1
      by_cases h0:len=0
      ·subst h0;exact RC.one (s:=.rs k []) (by simp[fit]) .rs0
      ·have hsp:a.spot=none:=by
        obtain⟨cs',h1,h2,_⟩:=helt 0 (by omega);have:=h2 0 (cs'[0]'(by omega)) (by rw[List.getElem?_eq_getElem]);rw[Nat.zero_mul]at this;simp only[Addr.add,if_true]at this;unfold World.cell? at this;split at this
        ·cases hsp:a.spot with
         |none=>rfl
         |some q=>rw[hsp]at this;simp at this
        ·cases this
       obtain⟨ab,ao,asp⟩:=a;dsimp only at hsp;subst hsp
       haveI:Inhabited k.T:=⟨cV k⟩
       obtain⟨X,hX⟩:=choose_lt (p:=fun i (x:k.T) =>∀ (j:Nat) (s:SV),(cellsOf k x)[j]? =some s→∃ v,w.cell? ⟨ab,ao+i*aa k+j,none⟩=some v∧Rel F own w s v) (n:=len) fun i hi=>by
        obtain⟨cs',h1,h2,l,h3,h4,h5⟩:=helt i hi;refine⟨mkE k l,fun j s hj=>?_⟩;rw[kL (k:=k) (l:=l) (x:=mkE k l) (by unfold l8;rw[h3];rfl)]at hj;have hlt:j<cs'.length:=by
         have:=(List.getElem?_eq_some_iff.1 hj).1;omega
        refine⟨cs'[j],?_,h5 j s _ hj (List.getElem?_eq_getElem hlt)⟩;have:=h2 j cs'[j] (List.getElem?_eq_getElem hlt);have hadd:∀ p q,((⟨ab,ao,none⟩:Addr).add p).add q=⟨ab,ao+p+q,none⟩:=fun p q=>by
         unfold Addr.add;by_cases hp:p=0 <;>by_cases hq:q=0 <;>simp[hp,hq]
        rwa[hadd]at this
       have hL:((List.range len).map X).length=len:=by simp
       refine RC.one (s:=.rs k ((List.range len).map X)) (by simp[fit]) ?_;have hget:∀ (i:Nat) (x:k.T),((List.range len).map X)[i]? =some x→i<len∧x=X i:=fun i x hi=>by
        obtain⟨h1,h2⟩:=List.getElem?_eq_some_iff.1 hi;rw[hL]at h1;simp only[List.getElem_map,List.getElem_range]at h2;subst h2;exact⟨h1,rfl⟩
       have:=Rel.rs (F:=F) (own:=own) (w:=w) (k:=k) (l:=(List.range len).map X) (b:=ab) (o:=ao) (cap:=cap) (fun i j=>(w.cell? ⟨ab,ao+i*aa k+j,none⟩).getD undef) (by rw[hL];exact hl) (by rw[hL];exact hs1)
        (fun i x hi j s hj=>by
         obtain⟨h1,rfl⟩:=hget i x hi;obtain⟨v,h2,_⟩:=hX i h1 j s hj;exact⟨hown _,by rw[h2];rfl⟩)
        (fun i x hi j s hj=>by
         obtain⟨h1,rfl⟩:=hget i x hi;obtain⟨v,h2,h3⟩:=hX i h1 j s hj;rw[h2];exact h3)
       rwa[hL]at this
   ·cases h
  ·rename_i fs ht;obtain⟨xs,m,rfl,rfl,hl,hlen,hf⟩:=DataW.trod_struct ht hx;rw[←hl]at h;have:=FQ (mG hS hown n) m cs fs.toList 0 ks h fun f hfm=>by
    obtain⟨i,hi,rfl⟩:=List.getElem_of_mem hfm;have hi':i<fs.size:=by simpa using hi
    have h1:=hf i fs[i] (by simp[hi']);rw[List.getElem?_eq_getElem (by omega)]at h1;refine⟨_,by simpa using h1,hS.agg _ hs _ (List.mem_map_of_mem (List.getElem_mem _))⟩
   simpa using this
  ·rename_i m e ht;split at h
   ·rename_i a ha;cases hb:Nat.beq a.length (P.cellsOf e)&&Nat.beq (P.cellsOf t) (m*a.length)with
    |false=>rw[hb]at h;cases h
    |true=>
     rw[hb]at h;cases h;rw[Bool.and_eq_true]at hb;have e1:a.length=P.cellsOf e:=Nat.eq_of_beq_eq_true hb.1;have e2:P.cellsOf t=m*a.length:=Nat.eq_of_beq_eq_true hb.2;obtain⟨xs,f2,rfl,rfl,hl,hlen,hf⟩:=DataW.trod_array ht hx;refine FR (mG hS hown n e a ha) f2 m cs (by rw[hl,e2]) fun i hi=>?_;have h1:=hf i hi;rw[List.getElem?_eq_getElem (by omega),←e1]at h1;exact⟨_,h1,hS.agg _ hs _ (List.mem_map_of_mem (List.getElem_mem _))⟩
   ·cases h
  ·cases h
end
end Go.Sx
end
section
namespace Go.Sx
open Go.Proofs
section
variable {F:Nat→Prop}{own:Own}{w:World}
theorem Mu {k:Tag}{cs:Array Value}(h:RC F own w (cP k) cs.toList):∃ x:k.T,Rel F own w (.agg (cellsOf k x)) (.agg cs):=by
 obtain⟨l,h3,h4,h5⟩:=h;refine⟨mkE k l,?_⟩;rw[kL (k:=k) (l:=l) (x:=mkE k l) (by unfold l8;rw[h3];rfl)];refine .agg (by simpa using h4.symm) fun j s hj=>?_;have hlt:j<cs.size:=by
  have:=(List.getElem?_eq_some_iff.1 hj).1;simpa[h4]using this
 exact h5 j s _ hj (by simp[Array.getD,hlt])
theorem Pw {k:Tag}{v:Value}(h:RC F own w [.r k] [v]):∃ l:List k.T,Rel F own w (.rs k l) v:=by
 obtain⟨l,h3,h4,h5⟩:=h;obtain⟨x,r,rfl,h6,h7⟩:=jZ h3;have h8:=h5 0 x v rfl rfl;cases x with
 |rs k' l'=>
  have:k=k':=by
   simp only[fit]at h6;exact nF h6
  subst this;exact⟨l',h8⟩
 |_=>simp[fit]at h6
end
end Go.Sx
end
section
namespace Go.Sx
open Go.ChangeShapes Go.RowKit Go.WideShapes
section
variable {H:Type}{enc:TypeId×Value→H}{P:Program}
def Mv (P:Program):List TypeId→Bool
 | [] =>true
 |t::r=>P.readableRec t&&Nat.blt t P.types.size&&Mv P r
theorem zB (hl:laidOutB P=true){W W':World}(hg:Below W.heap.size W W'):∀ {ts:List TypeId} {vs:List Value} {ds:List (DataW H)} {ps:List MemPlace},Mv P ts=true→
  DataW.TrodAll enc P W 0 (fun _=>true) true ts vs ds ps→(∀ x∈ps,x.block<W.heap.size)→DataW.TrodAll enc P W' 0 (fun b=>decide (b<W.heap.size)) true ts vs ds ps
 | [],vs,ds,ps,_,h,_=>by
  obtain⟨rfl,rfl,rfl⟩:=trodAll_nil h;exact trodAll_mk0
 |t::ts,vs,ds,ps,hk,h,hlt=>by
  unfold Mv at hk;rw[Bool.and_eq_true,Bool.and_eq_true]at hk;obtain⟨v,vs',d,ds',p,q,rfl,rfl,rfl,h1,h2⟩:=trodAll_cons h;refine trodAll_cons_mk (WideElems.Trod_stays hl hk.1.1 (by simpa[Nat.blt_eq]using hk.1.2) h1 (fun x hx=>hg.same (hlt x (List.mem_append_left _ hx))) (fun x hx=>by simpa using hlt x (List.mem_append_left _ hx))) ?_;exact zB hl hg hk.2 h2 fun x hx=>hlt x (List.mem_append_right _ hx)
theorem JU (hl:laidOutB P=true){f:Func}{s:ChangeSpec}{W W':World}{args:Array Value}{ds gs:List (DataW H)}{before:List MemPlace}{t:TypeId}
  (hk:Mv P f.params.toList=true) (hW:DataW.Whole enc P f.params.toList s.vars false W args.toList ds gs before)
  (hr:f.resultTypes= #[t]) (ht:P.underlying t=some .bool) (hv:s.vars=[]) (h1:(s.fn H (ds++gs)).results=[.lit (.bool true)]) (h2:(s.fn H (ds++gs)).args=ds) (h3:(s.fn H (ds++gs)).vars=[])
  (hg:Below W.heap.size W W'):s.post enc P f false true false false W args (.bool true) W':=by
 have hlt:=hW.lt;have hW0:=hW;obtain⟨p,q,hA,hV,rfl,_,_⟩:=hW;rw[hv]at hV;obtain⟨rfl,rfl⟩:=trodVars_none hV;refine⟨ds,[],p++[],[],p,[],hW0,?_,?_,?_,?_,fun h=>by cases h⟩
 ·rw[h1,hr];exact trodAll_cons_mk (shut_bool ht _) trodAll_mk0
 ·rw[h2];exact zB hl hg hk hA fun x hx=>hlt x (by simpa using hx)
 ·rw[h3,hv];rfl
 ·exact World.keptBut_mono (fun x hx=>⟨hx,.inr (.inl (by simpa using hx))⟩) (hg.frame (· ∈p++[]))
end
end Go.Sx
end
section
namespace Go.Proofs.YtgdkdhdlfdcefaaGreat.bulks
theorem one_le {H:Type}(d:DataW H):1≤Rows.uptoBulk d:=by
 cases d with
 |lit l=>cases l <;>simp[Rows.uptoBulk]
 |nil=>simp[Rows.uptoBulk]
 |ptr d=>simp[Rows.uptoBulk]
 |slice lD spare=>simp[Rows.uptoBulk]
 |agg parts=>simp[Rows.uptoBulk]
 |iface t d=>simp[Rows.uptoBulk]
 |map entries=>simp[Rows.uptoBulk]
 |held h=>simp[Rows.uptoBulk]
theorem part_le {H:Type}{d:DataW H}{l:List (DataW H)}(h:d∈l):Rows.uptoBulk d≤Rows.uptoBulkAll l:=by
 induction l with
 |nil=>cases h
 |cons x r ih=>
  simp only[Rows.uptoBulkAll];cases List.mem_cons.1 h with
  |inl e=>subst e;omega
  |inr e=>have:=ih e;omega
theorem append {H:Type}(l r:List (DataW H)):Rows.uptoBulkAll (l++r)=Rows.uptoBulkAll l+Rows.uptoBulkAll r:=by
 induction l with
 |nil=>simp[Rows.uptoBulkAll]
 |cons x l ih=>simp only[List.cons_append,Rows.uptoBulkAll,ih];omega
theorem length_le {H:Type}(l:List (DataW H)):l.length≤Rows.uptoBulkAll l:=by
 induction l with
 |nil=>simp[Rows.uptoBulkAll]
 |cons x r ih=>have:=one_le x;simp only[Rows.uptoBulkAll,List.length_cons];omega
theorem slice_le {H:Type}(lD spare:List (DataW H)):lD.length+spare.length+1≤Rows.uptoBulk (.slice lD spare):=by
 have h1:=length_le lD;have h2:=length_le spare;simp only[Rows.uptoBulk];omega
theorem slice_elems {H:Type}(lD spare:List (DataW H)):Rows.uptoBulkAll lD+1≤Rows.uptoBulk (.slice lD spare):=by
 simp only[Rows.uptoBulk];omega
theorem bound {H:Type}{l:List (DataW H)}(hk:Rows.uptoSmall H l=true):Rows.uptoBulkAll l≤1048576:=by
 simpa[Rows.uptoSmall]using hk
theorem room {n b:Nat}(hn:n≤2097152)(hb:b≤4096):(n+n / 4+192)*b≤281474976710656:=by
 have h:(n+n / 4+192)*b≤2621632*4096:=Nat.mul_le_mul (by omega) hb;omega
end Go.Proofs.YtgdkdhdlfdcefaaGreat.bulks
end
section
namespace Go.Proofs.YtgdkdhdlfdcefaaGreat.claimsOnce
open Go.ChangeShapes Go.WideShapes Go.ChangeAt Go.RowKit Go.Sx
set_option linter.unusedVariables false
theorem con_eq (x0:Tag.district.T)(x1:List Tag.deed.T)(x2:Int)(x3:Int)(x4:Int):jk [.agg (cellsOf .district x0),.rs .deed x1,.v (.int .i64 x2),.v (.int .i64 x3),.v (.int .i64 x4)]=some (.det (d_ x0 x1 x2 x3 x4) (.v (.bool (fa x0 x1 x2 x3 x4)))):=by
 unfold jk;simp only[go_sem,Nat.reduceBEq]
theorem call_true {W:World}{cs0:Array Value}(h0:RC (fun _=>False) cp W (cP .district) cs0.toList){v1:Value}(h1:RC (fun _=>False) cp W [.r .deed] [v1])(x2:Int)(h2:(-9223372036854775808)≤x2∧x2≤9223372036854775807)(x3:Int)(h3:(-9223372036854775808)≤x3∧x3≤9223372036854775807)(x4:Int)(h4:(-9223372036854775808)≤x4∧x4≤9223372036854775807):
  Calls Tryz.prog 5 #[.agg cs0,v1,.int .i64 x2,.int .i64 x3,.int .i64 x4] W (fun e W'=>e=.returned (.bool true)∧Below W.heap.size W W'):=by
 obtain⟨x0,r0⟩:=Mu h0;obtain⟨x1,r1⟩:=Pw h1;refine(qW.calls _ _ (con_eq x0 x1 x2 x3 x4) (Pt x0 x1 x2 x3 x4 h2 h3 h4) (fun _=>False) W _ (fun b h=>h.elim) ⟨rfl,fun j s hj=>?_⟩).mono fun e W' he=>?_
 ·match j,hj with
  |0,hj=>cases hj;exact r0
  |1,hj=>cases hj;exact r1
  |2,hj=>cases hj;exact .v _
  |3,hj=>cases hj;exact .v _
  |4,hj=>cases hj;exact .v _
 ·rcases he with⟨s,u,own',hs,rfl,hh,hb⟩ | ⟨x,hx,_⟩
  ·simp only[cX]at hs;subst hs;rw[Pu x0 x1 x2 x3 x4 h2 h3 h4]at hh;have:=hh.val;simp only[pm]at this;rw[bU this];exact⟨rfl,hb⟩
  ·exact hx.elim
theorem own:ownKnob Tryz.prog.godebug=none:=by kernel_rfl
theorem small (H:Type):Small (fun d:DataW H=>Rows.uptoBulk d≤1048576) where
 agg l h d hd:=by
  have h1:=bulks.part_le hd;simp only[Rows.uptoBulk]at h;omega
 slice l m h:=by
  have h1:=bulks.slice_le l m;have h2:=bulks.slice_elems l m;refine⟨by unfold bo;omega,fun d hd=>?_⟩;have:=bulks.part_le hd;omega
theorem laid:laidOutB Tryz.prog=true:=by kernel_rfl
set_option maxRecDepth 100000 in
theorem contract (H:Type)(enc:TypeId×Value→H)(W:World)(base:Nat)(args:Array Value)(ds gs:List (DataW H))(before:List MemPlace)
  (hval:∀ (j:Nat) t v,Tryz.f5.params[j]? =some t→args[j]? =some v→Value.okWide Tryz.prog W .any base t v)
  (hW:DataW.Whole enc Tryz.prog Tryz.f5.params.toList Rows.claimsOnceSpec.vars false W args.toList ds gs before) (hk:Rows.uptoSmall H (ds++gs)=true):
  Calls Tryz.prog 5 args W fun e W'=>∃ v,e=.returned v∧Rows.claimsOnceSpec.post enc Tryz.prog Tryz.f5 false true false false W args v W':=by
 have hW':=hW;obtain⟨p,q,hA0,hV,rfl,hfz,hnd⟩:=hW;have hA:DataW.TrodAll enc Tryz.prog W 0 (fun _=>true) true Tryz.f5.params.toList args.toList ds p:=hA0;rw[Tryz.params5]at hA hval;obtain⟨v0,vs0,d0,ds0,p0,q0,hargs,rfl,rfl,h0,r0⟩:=trodAll_cons hA;obtain⟨v1,vs1,d1,ds1,p1,q1,rfl,rfl,rfl,h1,r1⟩:=trodAll_cons r0;obtain⟨v2,vs2,d2,ds2,p2,q2,rfl,rfl,rfl,h2,r2⟩:=trodAll_cons r1;obtain⟨v3,vs3,d3,ds3,p3,q3,rfl,rfl,rfl,h3,r3⟩:=trodAll_cons r2;obtain⟨v4,vs4,d4,ds4,p4,q4,rfl,rfl,rfl,h4,r4⟩:=trodAll_cons r3;obtain⟨rfl,rfl,rfl⟩:=trodAll_nil r4;obtain rfl:args= #[v0,v1,v2,v3,v4]:=by cases args;simp_all
 obtain⟨rfl,rfl⟩:=trodVars_none hV;have hb:=bulks.bound hk;simp only[Rows.uptoBulkAll,List.append_nil,List.cons_append,List.nil_append]at hb;have ho:∀ b,¬bV (fun _=>False) cp b:=fun b h=>by
  rcases h with h| ⟨_,_,h,_⟩
  ·exact h
  ·cases h
 have s0:∃ cs,v0=.agg cs:=by
  have:=hval 0 31 v0 rfl rfl;simp only[Value.okWide,Tryz.underlying31]at this;exact⟨_,this.choose_spec.1⟩
 obtain⟨cs0,rfl⟩:=s0;obtain⟨a1,l1,c1,rfl⟩:=okWide_slice Tryz.underlying32 (hval 1 32 v1 rfl rfl);obtain⟨a2,rfl,rfl,rfl,w2⟩:=open_int Tryz.underlying3 (hval 2 3 v2 rfl rfl) h2;have R2:(-9223372036854775808)≤a2∧a2≤9223372036854775807:=by simpa[Lit.wf,IntKind.min,IntKind.max,IntKind.signed,IntKind.bits]using w2
 obtain⟨a3,rfl,rfl,rfl,w3⟩:=open_int Tryz.underlying3 (hval 3 3 v3 rfl rfl) h3;have R3:(-9223372036854775808)≤a3∧a3≤9223372036854775807:=by simpa[Lit.wf,IntKind.min,IntKind.max,IntKind.signed,IntKind.bits]using w3
 obtain⟨a4,rfl,rfl,rfl,w4⟩:=open_int Tryz.underlying3 (hval 4 3 v4 rfl rfl) h4;have R4:(-9223372036854775808)≤a4∧a4≤9223372036854775807:=by simpa[Lit.wf,IntKind.min,IntKind.max,IntKind.signed,IntKind.bits]using w4
 have R0:RC (fun _=>False) cp W (cP .district) cs0.toList:=by
  obtain⟨f,hf⟩:=h0;exact mG (n:=6) (t:=31) (small H) ho _ kr f _ _ hf (by show Rows.uptoBulk d0≤_;omega)
 have R1:RC (fun _=>False) cp W [.r .deed] [.slice a1 l1 c1]:=by
  obtain⟨f,hf⟩:=h1;exact mG (n:=6) (t:=32) (small H) ho _ kr f _ _ hf (by show Rows.uptoBulk d1≤_;omega)
 refine(call_true R0 R1 _ R2 _ R3 _ R4).mono fun e W' ⟨he,hg⟩ =>?_;subst he;exact⟨_,rfl,JU laid kr hW' kr Tryz.underlying4 rfl rfl rfl rfl hg⟩
def zeroV:Kd→Value
 | .n k=>.int k 0
 | .b=>.bool false
 | .s=>.string (ByteArray.mk #[])
 | .r _=>.slice none 0 0
 | .m _ _=>.map none
 | .f=>.nilFunc
def wit:Array Value:= #[.agg ((cP .district).map zeroV).toArray,.slice none 0 0,.int .i64 0,.int .i64 0,.int .i64 0]
set_option maxRecDepth 100000 in
theorem lifted (os:Os)(started:os.Started)(H:Type)(enc:TypeId×Value→H)(F:Stop.Interp):
  ReturnsInHanded {} Tryz.checked os 5 .any ((Rows.OpenSpec.upto Rows.claimsOnceSpec).pre6 enc Tryz.prog Tryz.f5 Rows.claimsOnceUptoRow.domain false) (((Rows.OpenSpec.upto Rows.claimsOnceSpec).at F).post enc Tryz.prog Tryz.f5 false true false false):=by
 refine returnsInHanded_of_cond (C:=Tryz.checked) (s:=Rows.OpenSpec.upto Rows.claimsOnceSpec) (k:=Rows.uptoSmall) rfl own started kr Tryz.func5
  (OpenSpec.witness (enc:=enc) (C:=Tryz.checked) (s:=Rows.OpenSpec.upto Rows.claimsOnceSpec) (k:=Rows.uptoSmall) rfl false ⟨#[],wit,[]⟩ 8 kr kr kr
   (x:=(DataW.whole enc Tryz.prog (World.plainHolding Tryz.prog os ⟨#[],wit,[]⟩).memory Tryz.f5.params.toList Rows.claimsOnceSpec.vars false wit.toList 8).getD ([],[],[])) kr rfl kr) ?_
 intro W base args ds gs before hval hW _ hk _;exact contract H enc W base args ds gs before hval hW hk
theorem over:Rows.claimsOnceUptoRow.holds Tryz.pinned (Rows.OpenSpec.upto Rows.claimsOnceSpec):=
 OpenClaim.holds_of_cond 5 Tryz.f5 rfl rfl rfl rfl rfl rfl rfl ⟨rfl,rfl,rfl,rfl,rfl⟩ rfl rfl rfl rfl rfl kr Tryz.func5 kr
  (of_decide_eq_true kr) (by unfold Func.isWrapper;first|(rw[if_pos (by decide+kernel)];kernel_rfl) |(rw[if_neg (by decide+kernel)];exact⟨rfl,rfl⟩))
  (fun os started H enc _ F=>lifted os started H enc F)
theorem proved:Rows.ClaimsOnceUptoSaid:=over
end Go.Proofs.YtgdkdhdlfdcefaaGreat.claimsOnce
end
