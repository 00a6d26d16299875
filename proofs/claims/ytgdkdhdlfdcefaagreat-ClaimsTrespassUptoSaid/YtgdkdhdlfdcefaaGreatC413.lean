/- Part of the proof that the law ClaimsTrespass returns true and leaves its arguments as they were, for all arguments of bulk at most 1048576 (the Upto form). -/
import Derived.Test.YtgdkdhdlfdcefaaGreatC412
import Derived.Test.YtgdkdhdlfdcefaaGreatC409
import Derived.Test.YtgdkdhdlfdcefaaGreatC411
import Derived.Test.YtgdkdhdlfdcefaaGreatC408
import Derived.Test.YtgdkdhdlfdcefaaGreatC407
import Derived.Deep.Slices
import Derived.OpenShut
import Derived.ChangeSame
import Derived.WideKeyArgs
import Derived.Below
import Derived.Test.YtgdkdhdlfdcefaaGreatRows
import Derived.WalkKit
import Derived.ProofKit
import Derived.JoinedCond
import Derived.Carry
set_option linter.all false
set_option maxHeartbeats 4000000
set_option maxRecDepth 100000
section
namespace Go.Sx
open Go.Proofs
def ofF (x:ClaimsFound):Option Claim:=if x.reach<0 then some x.claim else none
def blF (x:ClaimsFound):Option Block:=if 0≤x.reach then some { right:=x.claim.right,farm:=x.claim.farm,hour:=x.claim.hour,reach:=x.reach}else none
def ofL (d:District)(l:List Deed)(k fr to:Int):List Claim:=(fc d l k fr to).filterMap ofF
def blL (d:District)(l:List Deed)(k fr to:Int):List Block:=(fc d l k fr to).filterMap blF
def lim {α:Type}(e:Int)(l:List α):List α×Int:=if e=0 then(if 4096<l.length then([],2)else(l,0))else([],e)
theorem xZ {d:District}{l:List Deed}{fr to k:Int}(h:qp d l fr to k=0):(fc d l k fr to).length≤2457600:=by
 rw[←(xY d l k fr to).length_eq];unfold qp at h;split at h
 ·rename_i h1;exact absurd h h1
 ·split at h
  ·cases h
  ·rename_i h2;have h2:nt d fr to k:=Classical.not_not.1 h2;split at h
   ·cases h
   ·rename_i h3;exact sb h2 h3 xX
theorem x5 (d:District)(l:List Deed)(fr to k:Int):ia d l fr to k∧a_ d l fr to k=lim (qp d l fr to k) (ofL d l k fr to):=by
 obtain⟨h1,h2⟩:=Jy d l fr to k;by_cases he:qp d l fr to k=0
 ·rw[if_pos he]at h2;have hlen:=xZ he;have hstep:∀ j s,j< (fc d l k fr to).length→jK d l fr to k j s=.inr (s++(ofF ((fc d l k fr to).getD j default)).toList):=fun j s hj=>by
   unfold jK ofF;rw[h2];simp only;by_cases hq:((fc d l k fr to).getD j default).reach<0
   ·rw[if_pos hq,decide_eq_true hq];rfl
   ·rw[if_neg hq,decide_eq_false hq];simp
  refine⟨⟨h1,fun _ _=>?_⟩,?_⟩
  ·rw[h2];refine AV (fc d l k fr to) default ofF [] hstep fun j hj=>?_;intro _;rw[h2];have:=rF (fc d l k fr to) ofF j;have h3:=List.length_filterMap_le ofF (fc d l k fr to);rw[List.length_append,List.nil_append,List.length_singleton];unfold fE;omega
  ·unfold a_ lim;have hrun:=xW _ default ofF [] hstep;rw[h2];simp only[bne_self_eq_false,cond_false];rw[hrun,if_pos he,List.nil_append];show(bif decide (((ofL d l k fr to).length:Int) > 4096)then([],2)else(ofL d l k fr to,0))=_;by_cases hq:4096< (ofL d l k fr to).length
   ·rw[if_pos hq,decide_eq_true (by omega)];rfl
   ·rw[if_neg hq,decide_eq_false (by omega)];rfl
 ·rw[if_neg he]at h2;have hne:((aC d l fr to k).2 !=0)=true:=by rw[h2];simpa using he
  refine⟨⟨h1,fun h=>by rw[hne]at h;cases h⟩,?_⟩;unfold a_ lim;rw[hne,h2,if_neg he];rfl
theorem CK (d:District)(l:List Deed)(fr to k:Int):eV d l fr to k∧al d l fr to k=lim (qp d l fr to k) (blL d l k fr to):=by
 obtain⟨h1,h2⟩:=Jy d l fr to k;by_cases he:qp d l fr to k=0
 ·rw[if_pos he]at h2;have hlen:=xZ he;have hstep:∀ j s,j< (fc d l k fr to).length→fD d l fr to k j s=.inr (s++(blF ((fc d l k fr to).getD j default)).toList):=fun j s hj=>by
   unfold fD blF;rw[h2];simp only;by_cases hq:0≤((fc d l k fr to).getD j default).reach
   ·rw[if_pos hq,decide_eq_true (show _≥(0:Int)from hq)];rfl
   ·rw[if_neg hq,decide_eq_false (show ¬_≥(0:Int)from hq)];simp
  refine⟨⟨h1,fun _ _=>?_⟩,?_⟩
  ·rw[h2];refine AV (fc d l k fr to) default blF [] hstep fun j hj=>?_;intro _;rw[h2];have:=rF (fc d l k fr to) blF j;have h3:=List.length_filterMap_le blF (fc d l k fr to);rw[List.length_append,List.nil_append,List.length_singleton];unfold fE;omega
  ·unfold al lim;have hrun:=xW _ default blF [] hstep;rw[h2];simp only[bne_self_eq_false,cond_false];rw[hrun,if_pos he,List.nil_append];show(bif decide (((blL d l k fr to).length:Int) > 4096)then([],2)else(blL d l k fr to,0))=_;by_cases hq:4096< (blL d l k fr to).length
   ·rw[if_pos hq,decide_eq_true (by omega)];rfl
   ·rw[if_neg hq,decide_eq_false (by omega)];rfl
 ·rw[if_neg he]at h2;have hne:((aC d l fr to k).2 !=0)=true:=by rw[h2];simpa using he
  refine⟨⟨h1,fun h=>by rw[hne]at h;cases h⟩,?_⟩;unfold al lim;rw[hne,h2,if_neg he];rfl
theorem AY {α β γ:Type}(f:α→List β)(g:β→Option γ):∀ l:List α,(l.flatMap f).filterMap g=l.flatMap fun a=>(f a).filterMap g
 | [] =>rfl
 |a::l=>by rw[List.flatMap_cons,List.flatMap_cons,List.filterMap_append,AY f g l]
def ofH (d:District)(l:List Deed)(k h:Int):List Claim:=(rE d l h k).filterMap fun c=>if ux d c.farm h<0 then some c else none
def blH (d:District)(l:List Deed)(k h:Int):List Block:=(rE d l h k).filterMap fun c=>if 0≤ux d c.farm h then some { right:=c.right,farm:=c.farm,hour:=c.hour,reach:=ux d c.farm h}else none
theorem Pb (d:District)(l:List Deed)(k fr to:Int):ofL d l k fr to=(hrs fr to).flatMap (ofH d l k):=by
 unfold ofL fc;rw[AY];congr 1
 funext h
 rw[List.filterMap_map];rfl
theorem Pc (d:District)(l:List Deed)(k fr to:Int):blL d l k fr to=(hrs fr to).flatMap (blH d l k):=by
 unfold blL fc;rw[AY];congr 1
 funext h
 rw[List.filterMap_map];rfl
theorem Ma {d:District}{l:List Deed}{k fr to:Int}{c:Claim}:c∈ofL d l k fr to↔(fr≤c.hour∧c.hour≤to)∧c∈rE d l c.hour k∧ux d c.farm c.hour<0:=by
 rw[Pb,List.mem_flatMap];constructor
 ·rintro⟨h,hh,hc⟩;unfold ofH at hc;rw[List.mem_filterMap]at hc;obtain⟨c',hc',e⟩:=hc;split at e
  ·rename_i hf;cases e;have:=(n_ hc').hour;subst this;exact⟨tt.1 hh,hc',hf⟩
  ·cases e
 ·rintro⟨h1,h2,h3⟩;refine⟨c.hour,tt.2 h1,?_⟩;unfold ofH;rw[List.mem_filterMap];exact⟨c,h2,by rw[if_pos h3]⟩
theorem Mb {d:District}{l:List Deed}{k fr to:Int}{b:Block}:b∈blL d l k fr to↔∃ c:Claim,(fr≤c.hour∧c.hour≤to)∧c∈rE d l c.hour k∧0≤ux d c.farm c.hour∧b= { right:=c.right,farm:=c.farm,hour:=c.hour,reach:=ux d c.farm c.hour}:=by
 rw[Pc,List.mem_flatMap];constructor
 ·rintro⟨h,hh,hc⟩;unfold blH at hc;rw[List.mem_filterMap]at hc;obtain⟨c',hc',e⟩:=hc;split at e
  ·rename_i hf;cases e;have:=(n_ hc').hour;subst this;exact⟨c',tt.1 hh,hc',hf,rfl⟩
  ·cases e
 ·rintro⟨c,h1,h2,h3,rfl⟩;refine⟨c.hour,tt.2 h1,?_⟩;unfold blH;rw[List.mem_filterMap];exact⟨c,h2,by rw[if_pos h3]⟩
theorem GZ {d:District}{l:List Deed}{fr to k:Int}(h:qp d l fr to k=0):aO d l=0∧nt d fr to k∧¬4096< (to - fr+1)*(d.rights.length:Int):=by
 unfold qp at h;split at h
 ·rename_i h1;exact absurd h h1
 ·rename_i h1;split at h
  ·cases h
  ·rename_i h2;split at h
   ·cases h
   ·rename_i h3;exact⟨Classical.not_not.1 h1,Classical.not_not.1 h2,h3⟩
theorem Pd (a b:List Claim):lJ a b:=fun _ _ h=>kp _ _ _ fun j _ _ hj _=>by
 simp only[bne_eq_false_iff_eq]at h;omega
theorem G0 (a:List Claim):mu a a=true:=by
 unfold mu;have e:ap (iM a a) a.length 0 ()=.inr ():=fB.2 fun j _=>by
  unfold iM;simp
 rw[e];simp
theorem Mc (a b:List Block):fa a b:=fun _ _ h=>kp _ _ _ fun j _ _ hj _=>by
 simp only[bne_eq_false_iff_eq]at h;omega
theorem x6 (a:List Block):eS a a=true:=by
 unfold eS;have e:ap (eI a a) a.length 0 ()=.inr ():=fB.2 fun j _=>by
  unfold eI;simp
 rw[e];simp
def bh:District:=({ name:=(ByteArray.mk #[]),hours:=4,tank:=({ cap:=100,start:=50}:Tank),reaches:=(([({ name:=(ByteArray.mk #[]),up:=(-1),delay:=1,cap:=20,bank:=50,siphon:=0,evap:=({ lo:=0,hi:=0}:Range),seep:=(({ n:=0,d:=1}:Ratio),({ n:=0,d:=1}:Ratio))}:Reach),({ name:=(ByteArray.mk #[]),up:=(-1),delay:=1,cap:=20,bank:=50,siphon:=0,evap:=({ lo:=0,hi:=0}:Range),seep:=(({ n:=0,d:=1}:Ratio),({ n:=0,d:=1}:Ratio))}:Reach)]).set 1 ({ name:=(([({ name:=(ByteArray.mk #[]),up:=(-1),delay:=1,cap:=20,bank:=50,siphon:=0,evap:=({ lo:=0,hi:=0}:Range),seep:=(({ n:=0,d:=1}:Ratio),({ n:=0,d:=1}:Ratio))}:Reach),({ name:=(ByteArray.mk #[]),up:=(-1),delay:=1,cap:=20,bank:=50,siphon:=0,evap:=({ lo:=0,hi:=0}:Range),seep:=(({ n:=0,d:=1}:Ratio),({ n:=0,d:=1}:Ratio))}:Reach)]).getD 1 (default:Reach)).name,up:=0,delay:=(([({ name:=(ByteArray.mk #[]),up:=(-1),delay:=1,cap:=20,bank:=50,siphon:=0,evap:=({ lo:=0,hi:=0}:Range),seep:=(({ n:=0,d:=1}:Ratio),({ n:=0,d:=1}:Ratio))}:Reach),({ name:=(ByteArray.mk #[]),up:=(-1),delay:=1,cap:=20,bank:=50,siphon:=0,evap:=({ lo:=0,hi:=0}:Range),seep:=(({ n:=0,d:=1}:Ratio),({ n:=0,d:=1}:Ratio))}:Reach)]).getD 1 (default:Reach)).delay,cap:=(([({ name:=(ByteArray.mk #[]),up:=(-1),delay:=1,cap:=20,bank:=50,siphon:=0,evap:=({ lo:=0,hi:=0}:Range),seep:=(({ n:=0,d:=1}:Ratio),({ n:=0,d:=1}:Ratio))}:Reach),({ name:=(ByteArray.mk #[]),up:=(-1),delay:=1,cap:=20,bank:=50,siphon:=0,evap:=({ lo:=0,hi:=0}:Range),seep:=(({ n:=0,d:=1}:Ratio),({ n:=0,d:=1}:Ratio))}:Reach)]).getD 1 (default:Reach)).cap,bank:=(([({ name:=(ByteArray.mk #[]),up:=(-1),delay:=1,cap:=20,bank:=50,siphon:=0,evap:=({ lo:=0,hi:=0}:Range),seep:=(({ n:=0,d:=1}:Ratio),({ n:=0,d:=1}:Ratio))}:Reach),({ name:=(ByteArray.mk #[]),up:=(-1),delay:=1,cap:=20,bank:=50,siphon:=0,evap:=({ lo:=0,hi:=0}:Range),seep:=(({ n:=0,d:=1}:Ratio),({ n:=0,d:=1}:Ratio))}:Reach)]).getD 1 (default:Reach)).bank,siphon:=(([({ name:=(ByteArray.mk #[]),up:=(-1),delay:=1,cap:=20,bank:=50,siphon:=0,evap:=({ lo:=0,hi:=0}:Range),seep:=(({ n:=0,d:=1}:Ratio),({ n:=0,d:=1}:Ratio))}:Reach),({ name:=(ByteArray.mk #[]),up:=(-1),delay:=1,cap:=20,bank:=50,siphon:=0,evap:=({ lo:=0,hi:=0}:Range),seep:=(({ n:=0,d:=1}:Ratio),({ n:=0,d:=1}:Ratio))}:Reach)]).getD 1 (default:Reach)).siphon,evap:=(([({ name:=(ByteArray.mk #[]),up:=(-1),delay:=1,cap:=20,bank:=50,siphon:=0,evap:=({ lo:=0,hi:=0}:Range),seep:=(({ n:=0,d:=1}:Ratio),({ n:=0,d:=1}:Ratio))}:Reach),({ name:=(ByteArray.mk #[]),up:=(-1),delay:=1,cap:=20,bank:=50,siphon:=0,evap:=({ lo:=0,hi:=0}:Range),seep:=(({ n:=0,d:=1}:Ratio),({ n:=0,d:=1}:Ratio))}:Reach)]).getD 1 (default:Reach)).evap,seep:=(([({ name:=(ByteArray.mk #[]),up:=(-1),delay:=1,cap:=20,bank:=50,siphon:=0,evap:=({ lo:=0,hi:=0}:Range),seep:=(({ n:=0,d:=1}:Ratio),({ n:=0,d:=1}:Ratio))}:Reach),({ name:=(ByteArray.mk #[]),up:=(-1),delay:=1,cap:=20,bank:=50,siphon:=0,evap:=({ lo:=0,hi:=0}:Range),seep:=(({ n:=0,d:=1}:Ratio),({ n:=0,d:=1}:Ratio))}:Reach)]).getD 1 (default:Reach)).seep}:Reach)),farms:=[({ name:=(ByteArray.mk #[]),reach:=1,area:=10,crop:=0}:Farm),({ name:=(ByteArray.mk #[]),reach:=1,area:=10,crop:=0}:Farm)],crops:=[({ name:=(ByteArray.mk #[]),need:=3}:Crop)],rights:=[({ name:=(ByteArray.mk #[]),kind:=1,farm:=0,reach:=0,rank:=7,litres:=5,since:=0,to:=3,every:=2,length:=1}:Right),({ name:=(ByteArray.mk #[]),kind:=2,farm:=1,reach:=1,rank:=0,litres:=0,since:=0,to:=3,every:=0,length:=0}:Right)],duties:=[],wells:=[]}:District)
def lu:Prop:=(0≤1∧1< (([({ name:=(ByteArray.mk #[]),up:=(-1),delay:=1,cap:=20,bank:=50,siphon:=0,evap:=({ lo:=0,hi:=0}:Range),seep:=(({ n:=0,d:=1}:Ratio),({ n:=0,d:=1}:Ratio))}:Reach),({ name:=(ByteArray.mk #[]),up:=(-1),delay:=1,cap:=20,bank:=50,siphon:=0,evap:=({ lo:=0,hi:=0}:Range),seep:=(({ n:=0,d:=1}:Ratio),({ n:=0,d:=1}:Ratio))}:Reach)]).length:Int))
@[go_sem] def oX:List SV→Option Con:=(pE (.det (lu) (.agg [.v (.string ((bh).name)),.v (.int .i64 ((bh).hours)),.v (.int .i64 ((bh).tank.cap)),.v (.int .i64 ((bh).tank.start)),.nw .reach ((bh).reaches),.nw .farm ((bh).farms),.nw .crop ((bh).crops),.nw .right ((bh).rights),.v (.slice none 0 0),.v (.slice none 0 0)])))
theorem uz:FnOk Tryz.prog 27 oX:=by
 have hG:ConsOk Tryz.prog (mkG [] []):=aw cg0 cg0;refine oy [] mixed an hG (fn:=Tryz.f27) (c:=ae Tryz.f27) kr kr kr kr (aF (fun hp=>?_));dsimp only[aD]at hp;unfold lu at hp;refine⟨nbl rfl,L0,ah _,?_⟩
 ·unfold ae Tryz.f27;try unfold bh
  exact zq1
def jM:=([({ right:=0,farm:=0,hour:=2,litres:=5,rank:=7}:Claim)])
def jN:=([({ right:=0,farm:=0,hour:=0,litres:=0,rank:=7}:Claim)])
def jO:=([({ right:=0,farm:=0,hour:=0,reach:=1}:Block),({ right:=0,farm:=0,hour:=2,reach:=1}:Block)])
def ic:=(bh.rights++([({ name:=(ByteArray.mk #[]),kind:=3,farm:=0,reach:=1,rank:=0,litres:=0,since:=2,to:=3,every:=0,length:=0}:Right)]))
def df:=({ name:=bh.name,hours:=bh.hours,tank:=bh.tank,reaches:=bh.reaches,farms:=bh.farms,crops:=bh.crops,rights:=bh.rights,duties:=[],wells:=[]}:District)
def cA:=(a_ df ([]) 0 4 0)
def cB:=(a_ df ([]) 0 3 0)
def fT:=(cB.1)
def cC:=(al df ([]) 0 3 0)
def fU:=(cC.1)
def dg:=(fT.length:Int)
def cp:=({ name:=bh.name,hours:=bh.hours,tank:=bh.tank,reaches:=bh.reaches,farms:=bh.farms,crops:=bh.crops,rights:=ic,duties:=[],wells:=[]}:District)
def dY:=(eS fU jO)
def ig:=(fa fU jO)
def cD:=(a_ cp ([]) 0 3 0)
def dC:=(cD.1)
def cT:=(al cp ([]) 0 3 0)
def gD:=(cT.1)
def dR:=(jD cp jN)
def fH:=(mu dC jM)
def iR:=(fa gD ([({ right:=0,farm:=0,hour:=0,reach:=1}:Block)]))
def iS:=(lJ dC jM)
def di:=(jD cp dC)
def eP:=(dC++dC)
def fI:=(jD cp eP)
def iT:=(fP cp eP)
def kl:Bool:=(bif((((((((cB.2 !=0) ||(cC.2 !=0)) ||(cA.2 !=1)) ||(cD.2 !=0)) ||(cT.2 !=0)) ||(di !=0)) ||(dR !=260)) ||(fI !=260))then false else((((dg==0)&&dY)&&fH)&&(eS gD ([({ right:=0,farm:=0,hour:=0,reach:=1}:Block)]))))
def jP:Prop:=((lu)∧((ia df ([]) 0 3 0)∧((eV df ([]) 0 3 0)∧((ia df ([]) 0 4 0)∧((ic.length*88≤fE)∧(ic.length≤bp→((ia cp ([]) 0 3 0)∧((eV cp ([]) 0 3 0)∧(((((((cB.2 !=0) ||(cC.2 !=0)) ||(cA.2 !=1)) ||(cD.2 !=0)) ||(cT.2 !=0))=false→(fP cp dC))∧((((((((cB.2 !=0) ||(cC.2 !=0)) ||(cA.2 !=1)) ||(cD.2 !=0)) ||(cT.2 !=0)) ||(di !=0))=false→(fP cp jN))∧(((((((((cB.2 !=0) ||(cC.2 !=0)) ||(cA.2 !=1)) ||(cD.2 !=0)) ||(cT.2 !=0)) ||(di !=0)) ||(dR !=260))=true→(((((((((cB.2 !=0) ||(cC.2 !=0)) ||(cA.2 !=1)) ||(cD.2 !=0)) ||(cT.2 !=0)) ||(di !=0)) ||(dR !=260))=false→iT)∧(((((((((cB.2 !=0) ||(cC.2 !=0)) ||(cA.2 !=1)) ||(cD.2 !=0)) ||(cT.2 !=0)) ||(di !=0)) ||(dR !=260)) ||(fI !=260))=false→(fT.length≤bp→(((dg==0)=true→ig)∧((((dg==0)&&dY)=true→iS)∧((((dg==0)&&dY)&&fH)=true→iR)))))))∧((((((((cB.2 !=0) ||(cC.2 !=0)) ||(cA.2 !=1)) ||(cD.2 !=0)) ||(cT.2 !=0)) ||(di !=0)) ||(dR !=260))=false→((eP.length*40≤fE)∧(eP.length≤bp→(((((((((cB.2 !=0) ||(cC.2 !=0)) ||(cA.2 !=1)) ||(cD.2 !=0)) ||(cT.2 !=0)) ||(di !=0)) ||(dR !=260))=false→iT)∧(((((((((cB.2 !=0) ||(cC.2 !=0)) ||(cA.2 !=1)) ||(cD.2 !=0)) ||(cT.2 !=0)) ||(di !=0)) ||(dR !=260)) ||(fI !=260))=false→(fT.length≤bp→(((dg==0)=true→ig)∧((((dg==0)&&dY)=true→iS)∧((((dg==0)&&dY)&&fH)=true→iR))))))))))))))))))))
@[go_sem] def tD:List SV→Option Con:=(pE (.det (jP) (.v (.bool (kl)))))
theorem yA:FnOk Tryz.prog 10 tD:=by
 have hG:ConsOk Tryz.prog (mkG [(12,fun l=>ql (dl [.st .district,.sl .deed,.o,.o,.o] l)),(14,fun l=>kh (dl [.st .district,.sl .deed,.o,.o,.o] l)),(16,fun l=>s4 (dl [.sl .claim,.sl .claim] l)),(17,fun l=>mv (dl [.sl .block,.sl .block] l)),(19,fun l=>pA (dl [.st .district,.sl .claim] l)),(27,oX)] []):=aw (cgc (tu.norm [.st .district,.sl .deed,.o,.o,.o]) (cgc (mX.norm [.st .district,.sl .deed,.o,.o,.o]) (cgc (yn.norm [.sl .claim,.sl .claim]) (cgc (qL.norm [.sl .block,.sl .block]) (cgc (vp.norm [.st .district,.sl .claim]) (cgc uz cg0)))))) cg0;refine aV [.o] mixed an hG (fn:=Tryz.f10) (c:=ae Tryz.f10) kr kr kr kr (aF (fun hp=>?_));dsimp only[aD]at hp;unfold jP at hp;try simp only[jM,jN,jO,ic,df,cA,cB,fT,cC,fU,dg,cp,dY,ig,cD,dC,cT,gD,dR,fH,iR,iS,di,eP,fI,iT]at hp
 refine⟨nbl rfl,L0,ah _,?_⟩
 ·unfold ae Tryz.f10;try unfold kl
  simp (maxSteps:=1000000) only[go_sem,Nat.reduceBEq,Nat.reduceLeDiff,Nat.reduceLT,decide_true,Nat.reduceAdd,Nat.reduceSub,Nat.reduceMul,Int.reduceLE,Int.reduceLT,Int.reduceToNat,Int.reduceNeg,reduceCtorEq,jM,jN,jO,ic,df,cA,cB,fT,cC,fU,dg,cp,dY,ig,cD,dC,cT,gD,dR,fH,iR,iS,di,eP,fI,iT];all_goals exact cl
structure FineC (d:District)(x:Claim):Prop where
 r0:0≤x.right
 r1:x.right< (d.rights.length:Int)
 f0:0≤x.farm
 f1:x.farm< (d.farms.length:Int)
 h0:0≤x.hour
 h1:x.hour<d.hours
 l0:1≤x.litres
 l1:x.litres≤1073741824
 kind:(d.rights.getD x.right.toNat default).kind=1
 rank:(d.rights.getD x.right.toNat default).rank=x.rank
def Jz (d:District)(x:Claim):Bool:=(((((((decide (x.right≥0))&&(decide (x.right< (d.rights.length:Int))))&&(decide (x.farm≥0)))&&(decide (x.farm< (d.farms.length:Int))))&&(decide (x.hour≥0)))&&(decide (x.hour<d.hours)))&&(decide (x.litres≥1)))&&(decide (x.litres≤1073741824))
theorem G1 (d:District)(x:Claim):Jz d x=true↔(0≤x.right∧x.right< (d.rights.length:Int))∧(0≤x.farm∧x.farm< (d.farms.length:Int))∧(0≤x.hour∧x.hour<d.hours)∧(1≤x.litres∧x.litres≤1073741824):=by
 unfold Jz;simp only[Bool.and_eq_true,decide_eq_true_eq];omega
theorem JA (d:District)(c:List Claim):fP d c:=fun _ _ h _=>kp _ _ _ fun j _ _ hj=>by
 have hle:c.length≤4096:=by have:=of_decide_eq_false h;omega
 have h8:=G1 d (c.getD j default);unfold Jz at h8;unfold gN;refine⟨fun h=>?_,fun h=>?_,fun h h0=>?_⟩
 ·rw[Bool.not_eq_false']at h;exact(h8.1 h).1
 ·rw[Bool.or_eq_false_iff,Bool.not_eq_false']at h;exact(h8.1 h.1).1
 ·have h0:=of_decide_eq_true h0;rw[bw (by omega) (by omega)];omega
def uA (d:District)(l:List Deed)(k fr to:Int):List ClaimsFound:=(hrs fr to).flatMap fun h=>(((kW d (qn d l h k)).filterMap (opn d h)).foldl yz []).map (fnd d h)
theorem CL {d:District}{l:List Deed}{k fr to:Int}(h:qp d l fr to k=0):fc d l k fr to=uA d l k fr to:=by
 obtain⟨hc,⟨⟨a,b,c⟩,e,f⟩,_⟩:=GZ h;unfold fc uA;have:∀ L:List Int,(∀ x∈L,fr≤x∧x≤to)→(L.flatMap fun h=>(rE d l h k).map (fnd d h))=L.flatMap fun h=>(((kW d (qn d l h k)).filterMap (opn d h)).foldl yz []).map (fnd d h):=fun L=>by
  induction L with
  |nil=>intro _;rfl
  |cons x L ih=>
   intro hL;have hx:=hL x (by simp);rw[List.flatMap_cons,List.flatMap_cons,ih fun y hy=>hL y (by simp[hy])];congr 2
   unfold rE ib;rw[(CG d l x k).2,if_neg (by simp[hc]),if_pos (by omega)]
 exact this _ fun x hx=>tt.1 hx
theorem FD {d:District}{l:List Deed}{k fr to:Int}{F:List ClaimsFound}(h:qp d l fr to k=0)(hF:uA d l k fr to=F)(h1:decide (4096< (F.filterMap ofF).length)=false):a_ d l fr to k=(F.filterMap ofF,0):=by
 rw[(x5 d l fr to k).2];unfold lim ofL;rw[CL h,hF,if_pos h,if_neg (of_decide_eq_false h1)]
theorem FE {d:District}{l:List Deed}{k fr to:Int}{F:List ClaimsFound}(h:qp d l fr to k=0)(hF:uA d l k fr to=F)(h1:decide (4096< (F.filterMap blF).length)=false):al d l fr to k=(F.filterMap blF,0):=by
 rw[(CK d l fr to k).2];unfold lim blL;rw[CL h,hF,if_pos h,if_neg (of_decide_eq_false h1)]
abbrev CN (h:Int):Claim:= { right:=0,farm:=0,hour:=h,litres:=5,rank:=7}
theorem ex1:qp df [] 0 3 0=0:=by kernel_rfl
theorem ex2:uA df [] 0 0 3=[{ claim:=CN 0,reach:=1},{ claim:=CN 2,reach:=1}]:=by kernel_rfl
theorem ex3:qp cp [] 0 3 0=0:=by kernel_rfl
theorem ex4:uA cp [] 0 0 3=[{ claim:=CN 0,reach:=1},{ claim:=CN 2,reach:= -1}]:=by kernel_rfl
theorem s19:cB=([],0):=FD ex1 ex2 kr
theorem s17:cC=([{ right:=0,farm:=0,hour:=0,reach:=1},{ right:=0,farm:=0,hour:=2,reach:=1}],0):=FE ex1 ex2 kr
theorem s20:cA=([],1):=by
 have h:qp df [] 0 4 0=1:=by kernel_rfl
 unfold cA;rw[(x5 _ _ _ _ _).2];unfold lim;rw[h];rfl
theorem s11:cD=([CN 2],0):=FD ex3 ex4 kr
theorem s9:cT=([{ right:=0,farm:=0,hour:=0,reach:=1}],0):=FE ex3 ex4 kr
theorem s10:dC=[CN 2]:=by unfold dC;rw[s11]
theorem s2:eP=[CN 2,CN 2]:=by unfold eP;rw[s10];rfl
theorem s3:di=0:=by unfold di;rw[s10];kernel_rfl
theorem s7:dR=260:=by kernel_rfl
theorem s1:fI=260:=by unfold fI;rw[s2];kernel_rfl
theorem s16:fU=[{ right:=0,farm:=0,hour:=0,reach:=1},{ right:=0,farm:=0,hour:=2,reach:=1}]:=by unfold fU;rw[s17]
theorem s8:gD=[{ right:=0,farm:=0,hour:=0,reach:=1}]:=by unfold gD;rw[s9]
theorem s13:dY=true:=by unfold dY;rw[s16];exact x6 _
theorem s6:fH=true:=by unfold fH;rw[s10];exact G0 _
theorem s15:dg=0:=by unfold dg fT;rw[s19];rfl
theorem Pe:kl=true:=by
 unfold kl;rw[s19,s17,s20,s11,s9,s3,s7,s1,s13,s6,s15,s8,x6];rfl
theorem JB:jP:=by
 unfold jP iT ig iS iR;refine⟨⟨by omega,of_decide_eq_true kr⟩,(x5 _ _ _ _ _).1,(CK _ _ _ _ _).1,(x5 _ _ _ _ _).1,?_,fun _=>⟨(x5 _ _ _ _ _).1,(CK _ _ _ _ _).1,?_⟩⟩
 ·exact nbl kr
 ·simp only[JA,Mc,Pd,true_and,and_true,implies_true,true_imp_iff];intro _;rw[s2];exact nbl kr
theorem CO {d:District}{f:Int}(he:ay d=0)(h0:0≤f)(h1:f< (d.farms.length:Int)):∀ r∈qo d f,0≤r:=fun r hr=>by
 have:=(uy he h0 h1).up.2.2;unfold qo at hr;exact(this r (List.mem_reverse.1 hr)).1
theorem JD {d:District}{f h:Int}(he:ay d=0)(h0:0≤f)(h1:f< (d.farms.length:Int))(hf:ux d f h<0):∀ r∈qo d f,lV d f r h=true:=fun r hr=>by
 unfold ux at hf;cases hq:(qo d f).find? (CJ d f h)with
 |none=>
  have:=List.find?_eq_none.1 hq r hr;unfold CJ at this;simpa using this
 |some x=>
  rw[hq,Option.getD_some]at hf;have:=CO he h0 h1 x (List.mem_of_find?_eq_some hq);omega
@[go_sem] def lQ (a0:District)(a1:Int)(a2:Int)(a3:Int)(k_0:Nat)(s_0:Bool×Bool):Empty⊕(Bool×Bool):=(bif((((a0.rights.getD k_0 (default:Right)).reach==a2)&&(decide ((a0.rights.getD k_0 (default:Right)).since≤a3)))&&(decide (a3≤(a0.rights.getD k_0 (default:Right)).to)))then .inr ((s_0.1||(((a0.rights.getD k_0 (default:Right)).kind==2)&&((a0.rights.getD k_0 (default:Right)).farm !=a1))),(s_0.2||(((a0.rights.getD k_0 (default:Right)).kind==3)&&((a0.rights.getD k_0 (default:Right)).farm==a1))))else .inr (s_0.1,s_0.2))
def lZ (a0:District)(a1:Int)(a2:Int)(a3:Int):Bool:=(match ap (lQ a0 a1 a2 a3) a0.rights.length 0 (false,false)with| .inl x=>x.elim| .inr s_0=>((!s_0.1) ||s_0.2))
@[go_sem] def u_:List SV→Option Con:=(pD .district fun a0=>(pI fun a1=>(pI fun a2=>(pI fun a3=>(pE (.det True (.v (.bool (lZ a0 a1 a2 a3)))))))))
theorem AZ:FnOk Tryz.prog 24 u_:=by
 have hG:ConsOk Tryz.prog (mkG [] []):=aw cg0 cg0;refine aV [.o] mixed an hG (fn:=Tryz.f24) (c:=ae Tryz.f24) kr kr kr kr (aW fun a0=>(bV fun a1=>(bV fun a2=>(bV fun a3=>(aF (fun hp=>?_))))));dsimp only[aD]at hp;refine⟨nbl rfl,(fun id st=>bif Nat.beq id 0 then some (LCR (ρ:=Empty) (σ:=(Bool×Bool)) 1 [] [0] (fun k_0 s_0=>⟨[(1,.v (.int .i64 a1)),(2,.v (.int .i64 a2)),(3,.v (.int .i64 a3)),(9,.v (.bool s_0.1)),(10,.v (.bool s_0.2)),(14,.rs .right a0.rights),(15,.v (.int .i64 (a0.rights.length:Int))),(16,.v (.int .i64 (k_0:Int)))],[.dead]⟩) (lQ a0 a1 a2 a3) pT a0.rights.length (false,false) (a0.rights.length≤bp) ((·.elim)) ((·.elim)) st)else none),?_,?_⟩
 ·unfold ae Tryz.f24;simp only[am,true_and,and_true]
  ·refine cy mixed an hG kr (fun _=>rfl) (a0.rights.length:Int) rfl gE (fun hb0 k_0 s_0 hlt0 _ hw hc=>⟨L0,ah _,?_⟩) (fun hb0 s_0 hc=>?_)
   ·exact bL (jl [0])
   ·exact bM (jl [0])
 ·unfold ae Tryz.f24;try unfold lZ
  exact zq1
def ci (d:District)(farm:Int):List Int×Bool:=(bif((decide (farm<0)) ||(decide (farm≥(d.farms.length:Int))))then([],false)else((cJ d ((d.farms.getD (Int.toNat farm) (default:Farm)).reach)).1,((cJ d ((d.farms.getD (Int.toNat farm) (default:Farm)).reach)).2==0)))
def jQ (d:District)(farm:Int):Prop:=(((decide (farm<0)) ||(decide (farm≥(d.farms.length:Int))))=false→((0≤farm∧farm< (d.farms.length:Int))∧(iQ d ((d.farms.getD (Int.toNat farm) (default:Farm)).reach))))
@[go_sem] def tE:List SV→Option Con:=(pD .district fun d=>(pI fun farm=>(pE (.det (jQ d farm) (.tup [.rs .int ((ci d farm).1),.v (.bool ((ci d farm).2))])))))
theorem yB:FnOk Tryz.prog 23 tE:=by
 have hG:ConsOk Tryz.prog (mkG [(46,fun l=>nk (dl [.st .district,.o] l))] []):=aw (cgc (qe.norm [.st .district,.o]) cg0) cg0;refine aV [.sl .int,.o] mixed an hG (fn:=Tryz.f23) (c:=ae Tryz.f23) kr kr kr kr (aW fun d=>(bV fun farm=>(aF (fun hp=>?_))));dsimp only[aD]at hp;unfold jQ at hp;refine⟨nbl rfl,L0,ah _,?_⟩
 ·unfold ae Tryz.f23;try unfold ci
  exact zq1
@[go_sem] def eB (a0:District)(a1:List Deed)(a2:Int)(a3:Int)(a4:Int)(k_0:Nat)(k_1:Nat)(s_1:Unit):Unit⊕Unit:=(bif(!(lZ a0 ((((a_ a0 a1 a2 a3 a4).1).getD k_0 (default:Claim)).farm) (((ci a0 ((((a_ a0 a1 a2 a3 a4).1).getD k_0 (default:Claim)).farm)).1).getD k_1 (0:Int)) ((((a_ a0 a1 a2 a3 a4).1).getD k_0 (default:Claim)).hour)))then .inl ()else .inr ())
@[go_sem] def c8 (a0:District)(a1:List Deed)(a2:Int)(a3:Int)(a4:Int)(k_0:Nat)(s_0:Unit):Unit⊕Unit:=(bif(!(ci a0 ((((a_ a0 a1 a2 a3 a4).1).getD k_0 (default:Claim)).farm)).2)then .inl ()else(match ap (eB a0 a1 a2 a3 a4 k_0) (((ci a0 ((((a_ a0 a1 a2 a3 a4).1).getD k_0 (default:Claim)).farm)).1).length) 0 ()with| .inl x_1_0=>.inl () | .inr s_1=>.inr ()))
def fg (a0:District)(a1:List Deed)(a2:Int)(a3:Int)(a4:Int)(k_0:Nat)(s_0:Unit):Prop:=(jQ a0 ((((a_ a0 a1 a2 a3 a4).1).getD k_0 (default:Claim)).farm))
@[go_sem] def eC (a0:District)(a1:List Deed)(a2:Int)(a3:Int)(a4:Int)(k_2:Nat)(k_3:Nat)(s_3:Int):Empty⊕Int:=(bif((decide (s_3<0))&&(!(lZ a0 ((((al a0 a1 a2 a3 a4).1).getD k_2 (default:Block)).farm) (((ci a0 ((((al a0 a1 a2 a3 a4).1).getD k_2 (default:Block)).farm)).1).getD k_3 (0:Int)) ((((al a0 a1 a2 a3 a4).1).getD k_2 (default:Block)).hour))))then .inr (((ci a0 ((((al a0 a1 a2 a3 a4).1).getD k_2 (default:Block)).farm)).1).getD k_3 (0:Int))else .inr s_3)
@[go_sem] def dJ (a0:District)(a1:List Deed)(a2:Int)(a3:Int)(a4:Int)(k_2:Nat)(s_2:Unit):Unit⊕Unit:=(bif(!(ci a0 ((((al a0 a1 a2 a3 a4).1).getD k_2 (default:Block)).farm)).2)then .inl ()else(match ap (eC a0 a1 a2 a3 a4 k_2) (((ci a0 ((((al a0 a1 a2 a3 a4).1).getD k_2 (default:Block)).farm)).1).length) 0 (-1)with| .inl x=>x.elim| .inr s_3=>(bif((decide (s_3<0)) ||(s_3 !=(((al a0 a1 a2 a3 a4).1).getD k_2 (default:Block)).reach))then .inl ()else .inr ())))
def fh (a0:District)(a1:List Deed)(a2:Int)(a3:Int)(a4:Int)(k_2:Nat)(s_2:Unit):Prop:=(jQ a0 ((((al a0 a1 a2 a3 a4).1).getD k_2 (default:Block)).farm))
def dK (a0:District)(a1:List Deed)(a2:Int)(a3:Int)(a4:Int):Bool:=(bif(!kl)then false else(bif(!(nS a0 a1 a2 a3))then true else(match ap (c8 a0 a1 a2 a3 a4) (((a_ a0 a1 a2 a3 a4).1).length) 0 ()with| .inl x_0_0=>false| .inr s_0=>(match ap (dJ a0 a1 a2 a3 a4) (((al a0 a1 a2 a3 a4).1).length) 0 ()with| .inl x_2_0=>false| .inr s_2=>true))))
def du (a0:District)(a1:List Deed)(a2:Int)(a3:Int)(a4:Int):Prop:=((jP)∧((!kl)=false→((!(nS a0 a1 a2 a3))=false→((ia a0 a1 a2 a3 a4)∧((eV a0 a1 a2 a3 a4)∧(((a_ a0 a1 a2 a3 a4).1).length≤bp→(okI (c8 a0 a1 a2 a3 a4) (fg a0 a1 a2 a3 a4) (((a_ a0 a1 a2 a3 a4).1).length) 0 ()∧(∀ s_0,ap (c8 a0 a1 a2 a3 a4) (((a_ a0 a1 a2 a3 a4).1).length) 0 ()=.inr s_0→(((al a0 a1 a2 a3 a4).1).length≤bp→okI (dJ a0 a1 a2 a3 a4) (fh a0 a1 a2 a3 a4) (((al a0 a1 a2 a3 a4).1).length) 0 ())))))))))
@[go_sem] def gj:List SV→Option Con:=(pD .district fun a0=>(pR .deed fun a1=>(pI fun a2=>(pI fun a3=>(pI fun a4=>(pE (.det (du a0 a1 a2 a3 a4) (.v (.bool (dK a0 a1 a2 a3 a4))))))))))
theorem oa:FnOk Tryz.prog 6 gj:=by
 have hG:ConsOk Tryz.prog (mkG [(10,tD),(11,fun l=>uT (dl [.st .district,.sl .deed,.o,.o] l)),(12,fun l=>ql (dl [.st .district,.sl .deed,.o,.o,.o] l)),(14,fun l=>kh (dl [.st .district,.sl .deed,.o,.o,.o] l)),(23,fun l=>tE (dl [.st .district,.o] l)),(24,fun l=>u_ (dl [.st .district,.o,.o,.o] l))] []):=aw (cgc yA (cgc (Av.norm [.st .district,.sl .deed,.o,.o]) (cgc (tu.norm [.st .district,.sl .deed,.o,.o,.o]) (cgc (mX.norm [.st .district,.sl .deed,.o,.o,.o]) (cgc (yB.norm [.st .district,.o]) (cgc (AZ.norm [.st .district,.o,.o,.o]) cg0)))))) cg0;refine aV [.o] mixed an hG (fn:=Tryz.f6) (c:=ae Tryz.f6) kr kr kr kr (aW fun a0=>(d7 fun a1=>(bV fun a2=>(bV fun a3=>(bV fun a4=>(aF (fun hp=>?_)))))));dsimp only[aD]at hp;unfold du at hp;refine⟨nbl rfl,(fun id st=>bif Nat.beq id 0 then some (LCR (ρ:=Unit) (σ:=Unit) 3 [] [0,1,2] (fun k_0 s_0=>⟨[(5,.ptr 0 0),(13,.os 2),(54,.os 1),(55,.v (.int .i64 (((a_ a0 a1 a2 a3 a4).1).length:Int))),(56,.v (.int .i64 (k_0:Int)))],[.cells (cellsOf .district a0),.row .claim ((a_ a0 a1 a2 a3 a4).1),.row .block ((al a0 a1 a2 a3 a4).1)]⟩) (c8 a0 a1 a2 a3 a4) (fg a0 a1 a2 a3 a4) (((a_ a0 a1 a2 a3 a4).1).length) () (((a_ a0 a1 a2 a3 a4).1).length≤bp) (fun _=>.ret) (fun x_0_0=>⟨[(10,.v (.bool false))],[.dead,.dead,.dead]⟩) st)else bif Nat.beq id 4 then some (LCR (ρ:=Unit) (σ:=Unit) 3 [] [0,1,2] (fun k_2 s_2=>⟨[(5,.ptr 0 0),(85,.os 2),(86,.v (.int .i64 (((al a0 a1 a2 a3 a4).1).length:Int))),(87,.v (.int .i64 (k_2:Int)))],[.cells (cellsOf .district a0),.dead,.row .block ((al a0 a1 a2 a3 a4).1)]⟩) (dJ a0 a1 a2 a3 a4) (fh a0 a1 a2 a3 a4) (((al a0 a1 a2 a3 a4).1).length) () (((al a0 a1 a2 a3 a4).1).length≤bp) (fun _=>.ret) (fun x_2_0=>⟨[(10,.v (.bool false))],[.dead,.dead,.dead]⟩) st)else none),?_,?_⟩
 ·unfold ae Tryz.f6;simp only[am,true_and,and_true];refine⟨?_,?_⟩
  ·refine cy mixed an hG kr (fun _=>rfl) (((a_ a0 a1 a2 a3 a4).1).length:Int) rfl gE (fun hb0 k_0 s_0 hlt0 hq0 hw hc=>⟨(fun id st=>bif Nat.beq id 2 then some (LCR (ρ:=Unit) (σ:=Unit) 4 [] [0,1,2,3] (fun k_1 s_1=>⟨[(5,.ptr 0 0),(13,.os 2),(16,.ptr 3 0),(54,.os 1),(55,.v (.int .i64 (((a_ a0 a1 a2 a3 a4).1).length:Int))),(56,.v (.int .i64 (k_0:Int))),(69,.rs .int ((ci a0 ((((a_ a0 a1 a2 a3 a4).1).getD k_0 (default:Claim)).farm)).1)),(70,.v (.int .i64 (((ci a0 ((((a_ a0 a1 a2 a3 a4).1).getD k_0 (default:Claim)).farm)).1).length:Int))),(71,.v (.int .i64 (k_1:Int)))],[.cells (cellsOf .district a0),.row .claim ((a_ a0 a1 a2 a3 a4).1),.row .block ((al a0 a1 a2 a3 a4).1),.cells (cellsOf .claim (((a_ a0 a1 a2 a3 a4).1).getD k_0 (default:Claim)))]⟩) (eB a0 a1 a2 a3 a4 k_0) pT (((ci a0 ((((a_ a0 a1 a2 a3 a4).1).getD k_0 (default:Claim)).farm)).1).length) () (((ci a0 ((((a_ a0 a1 a2 a3 a4).1).getD k_0 (default:Claim)).farm)).1).length≤bp) (fun _=>.ret) (fun x_1_0=>⟨[(10,.v (.bool false))],[.dead,.dead,.dead,.dead]⟩) st)else none),?_,?_⟩) (fun hb0 s_0 hc=>?_)
   ·simp only[am,true_and,and_true]
    ·refine cy mixed an hG kr (fun _=>rfl) (((ci a0 ((((a_ a0 a1 a2 a3 a4).1).getD k_0 (default:Claim)).farm)).1).length:Int) rfl gE (fun hb1 k_1 s_1 hlt1 _ hw hc=>⟨L0,ah _,?_⟩) (fun hb1 s_1 hc=>?_)
     ·exact bL (jl [0,1,2,3])
     ·exact bM (jl [0,1,2,3])
   ·unfold fg at hq0;try simp only[hw,Int.toNat_natCast]at hq0
    exact bL (jl [0,1,2])
   ·exact bM (jl [0,1,2])
  ·refine cy mixed an hG kr (fun _=>rfl) (((al a0 a1 a2 a3 a4).1).length:Int) rfl gE (fun hb2 k_2 s_2 hlt2 hq2 hw hc=>⟨(fun id st=>bif Nat.beq id 6 then some (LCR (ρ:=Empty) (σ:=Int) 4 [] [0,1,2,3] (fun k_3 s_3=>⟨[(5,.ptr 0 0),(22,.ptr 3 0),(25,.v (.int .i64 s_3)),(85,.os 2),(86,.v (.int .i64 (((al a0 a1 a2 a3 a4).1).length:Int))),(87,.v (.int .i64 (k_2:Int))),(100,.rs .int ((ci a0 ((((al a0 a1 a2 a3 a4).1).getD k_2 (default:Block)).farm)).1)),(101,.v (.int .i64 (((ci a0 ((((al a0 a1 a2 a3 a4).1).getD k_2 (default:Block)).farm)).1).length:Int))),(102,.v (.int .i64 (k_3:Int)))],[.cells (cellsOf .district a0),.dead,.row .block ((al a0 a1 a2 a3 a4).1),.cells (cellsOf .block (((al a0 a1 a2 a3 a4).1).getD k_2 (default:Block)))]⟩) (eC a0 a1 a2 a3 a4 k_2) pT (((ci a0 ((((al a0 a1 a2 a3 a4).1).getD k_2 (default:Block)).farm)).1).length) (-1) (((ci a0 ((((al a0 a1 a2 a3 a4).1).getD k_2 (default:Block)).farm)).1).length≤bp) ((·.elim)) ((·.elim)) st)else none),?_,?_⟩) (fun hb2 s_2 hc=>?_)
   ·simp only[am,true_and,and_true]
    ·refine cy mixed an hG kr (fun _=>rfl) (((ci a0 ((((al a0 a1 a2 a3 a4).1).getD k_2 (default:Block)).farm)).1).length:Int) rfl gE (fun hb3 k_3 s_3 hlt3 _ hw hc=>⟨L0,ah _,?_⟩) (fun hb3 s_3 hc=>?_)
     ·exact bL (jl [0,1,2,3])
     ·exact bM (jl [0,1,2,3])
   ·unfold fh at hq2;try simp only[hw,Int.toNat_natCast]at hq2
    exact bL (jl [0,1,2])
   ·exact bM (jl [0,1,2])
 ·unfold ae Tryz.f6;try unfold dK
  exact zq1
theorem FF (d:District)(f r h:Int):lZ d f r h=lV d f r h:=by
 rw[Fi];let P1:Right→Bool:=fun y=>(y.farm !=f)&&bi y 2 y.farm r h
 let P2:Right→Bool:=fun y=>bi y 3 f r h
 obtain⟨s,h1,h2⟩:=lN (step:=lQ d f r h) (fun k s=>s=((d.rights.take k).any P1,(d.rights.take k).any P2)) d.rights.length 0 (false,false) (by simp) (fun j s _ hj hs=>by
  rw[Nat.zero_add]at hj;refine⟨((d.rights.take (j+1)).any P1,(d.rights.take (j+1)).any P2),?_,rfl⟩;subst hs;rw[co d.rights default hj,iP,iP];unfold lQ;simp only[P1,P2,bi];generalize d.rights.getD j default=y;generalize (d.rights.take j).any _=A;generalize (d.rights.take j).any _=B;cases(y.reach==r) <;>cases decide (y.since≤h) <;>cases decide (h≤y.to) <;>cases A <;>cases B <;>cases(y.kind==2) <;>cases(y.kind==3) <;>cases hf:(y.farm==f) <;>simp[bne,hf])
 unfold lZ;rw[h1];simp only;rw[h2,Nat.zero_add,List.take_length]
theorem tF {d:District}{f:Int}(he:ay d=0)(h0:0≤f)(h1:f< (d.farms.length:Int)):ci d f=(qo d f,true):=by
 unfold ci;rw[decide_eq_false (show ¬f<0 by omega),decide_eq_false (show ¬f≥(d.farms.length:Int) by omega),qf (uy he h0 h1)];rfl
theorem zx (d:District)(f:Int):jQ d f:=fun h=>by
 rw[Bool.or_eq_false_iff,decide_eq_false_iff_not,decide_eq_false_iff_not]at h;exact⟨by omega,nq _ _⟩
theorem G3 {step:Nat→Int→Empty⊕Int}(L:List Int)(bad:Int→Bool)(hL:∀ x∈L,0≤x)(hs:∀ k s,k<L.length→step k s=bif(decide (s<0)&&bad (L.getD k 0))then .inr (L.getD k 0)else .inr s):ap step L.length 0 (-1)=.inr ((L.find? bad).getD (-1)):=by
 obtain⟨s,h1,h2⟩:=lN (step:=step) (fun k s=>s=((L.take k).find? bad).getD (-1)) L.length 0 (-1) (by simp) (fun j s _ hj e=>by
  rw[Nat.zero_add]at hj;rw[hs j s hj,co L 0 hj,List.find?_append,e];cases hq:(L.take j).find? bad with
  |some x=>
   have:=hL x (List.mem_of_mem_take (List.mem_of_find?_eq_some hq));refine⟨x,?_,rfl⟩;rw[Option.getD_some,decide_eq_false (by omega)];rfl
  |none=>
   generalize L.getD j 0=x;cases hb:bad x with
   |true=>exact⟨_,rfl,by simp[hb]⟩
   |false=>exact⟨_,rfl,by simp[hb]⟩)
 rw[h1,h2,Nat.zero_add,List.take_length]
theorem FG {α:Type}{e:Int}{l:List α}{x:α}(h:x∈(lim e l).1):x∈l:=by
 unfold lim at h;split at h
 ·split at h
  ·cases h
  ·exact h
 ·cases h
theorem zy (d:District)(l:List Deed)(fr to k:Int):du d l fr to k∧dK d l fr to k=true:=by
 have hO:∀ j,j< (a_ d l fr to k).1.length→((a_ d l fr to k).1.getD j default)∈ofL d l k fr to:=fun j hj=>by
  have:=tC (a_ d l fr to k).1 default hj;rw[(x5 d l fr to k).2]at this ⊢;exact FG this
 have hB:∀ j,j< (al d l fr to k).1.length→((al d l fr to k).1.getD j default)∈blL d l k fr to:=fun j hj=>by
  have:=tC (al d l fr to k).1 default hj;rw[(CK d l fr to k).2]at this ⊢;exact FG this
 have r0:ap (c8 d l fr to k) (a_ d l fr to k).1.length 0 ()=.inr ():=fB.2 fun j hj=>by
  obtain⟨_,hc,hf⟩:=Ma.1 (hO j hj);have hC:=n_ hc;unfold c8;rw[tF hC.exp hC.f0 hC.f1];simp only[Bool.not_true,cond_false];have r1:ap (eB d l fr to k j) (qo d ((a_ d l fr to k).1.getD j default).farm).length 0 ()=.inr ():=fB.2 fun i hi=>by
   unfold eB;rw[tF hC.exp hC.f0 hC.f1,FF];simp only;rw[JD hC.exp hC.f0 hC.f1 hf _ (tC _ 0 hi)];rfl
  rw[r1]
 have r2:ap (dJ d l fr to k) (al d l fr to k).1.length 0 ()=.inr ():=fB.2 fun j hj=>by
  obtain⟨c,_,hc,hf,e⟩:=Mb.1 (hB j hj);have hC:=n_ hc;have e1:((al d l fr to k).1.getD j default).farm=c.farm:=by rw[e]
  have e2:((al d l fr to k).1.getD j default).hour=c.hour:=by rw[e]
  have e3:((al d l fr to k).1.getD j default).reach=ux d c.farm c.hour:=by rw[e]
  unfold dJ;rw[e1,e3,tF hC.exp hC.f0 hC.f1];simp only[Bool.not_true,cond_false];have r3:ap (eC d l fr to k j) (qo d c.farm).length 0 (-1)=.inr (ux d c.farm c.hour):=G3 (qo d c.farm) (CJ d c.farm c.hour) (CO hC.exp hC.f0 hC.f1) fun i s hi=>by
   unfold eC;rw[e1,e2,tF hC.exp hC.f0 hC.f1,FF];rfl
  rw[r3];simp only;rw[decide_eq_false (by omega)];simp
 unfold du dK;rw[Pe,r0,r2];refine⟨⟨JB,fun _ _=>⟨(x5 _ _ _ _ _).1,(CK _ _ _ _ _).1,fun _=>⟨kp _ _ _ fun j _ _ _=>zx _ _,fun _ _ _=>kp _ _ _ fun j _ _ _=>zx _ _⟩⟩⟩,?_⟩;cases nS d l fr to <;>rfl
theorem Md (d:District)(l:List Deed)(fr to k:Int)(_: -9223372036854775808≤fr∧fr≤9223372036854775807)(_: -9223372036854775808≤to∧to≤9223372036854775807)(_: -9223372036854775808≤k∧k≤9223372036854775807):du d l fr to k:=(zy d l fr to k).1
theorem Me (d:District)(l:List Deed)(fr to k:Int)(_: -9223372036854775808≤fr∧fr≤9223372036854775807)(_: -9223372036854775808≤to∧to≤9223372036854775807)(_: -9223372036854775808≤k∧k≤9223372036854775807):dK d l fr to k=true:=(zy d l fr to k).2
end Go.Sx
end
section
namespace Go.Sx
open Go.Deep Go.RowKit
section
variable {F:Nat→Prop}{own:Own}{w:World}
def RC (F:Nat→Prop)(own:Own)(w:World)(ks:List Kd)(cs:List Value):Prop:=
 ∃ l:List SV,nu ks l=true∧l.length=cs.length∧∀ (j:Nat) (s:SV) (v:Value),l[j]? =some s→cs[j]? =some v→Rel F own w s v
theorem CP:∀ {a b:List Kd} {l m:List SV},nu a l=true→nu b m=true→nu (a++b) (l++m)=true
 | [],b,l,m,h1,h2=>by rw[nF h1];exact h2
 |k::a,b,l,m,h1,h2=>by
  obtain⟨x,r,rfl,e1,e2⟩:=jX h1;simp only[List.cons_append,nu,e1,CP e2 h2,Bool.and_self]
theorem RC.nil:RC F own w [] []:=⟨[],rfl,rfl,fun j s v h=>by cases h⟩
theorem RC.app {a b:List Kd}{c d:List Value}(h1:RC F own w a c)(h2:RC F own w b d):RC F own w (a++b) (c++d):=by
 obtain⟨l,f1,n1,r1⟩:=h1;obtain⟨m,f2,n2,r2⟩:=h2;refine⟨l++m,CP f1 f2,by simp[n1,n2],fun j s v hs hv=>?_⟩;by_cases hj:j<l.length
 ·rw[List.getElem?_append_left hj]at hs;rw[List.getElem?_append_left (by omega)]at hv;exact r1 j s v hs hv
 ·rw[List.getElem?_append_right (by omega)]at hs;rw[List.getElem?_append_right (by omega),←n1]at hv;exact r2 _ s v hs hv
theorem RC.one {k:Kd}{s:SV}{v:Value}(h1:fit k s=true)(h2:Rel F own w s v):RC F own w [k] [v]:=
 ⟨[s],by simp[nu,h1],rfl,fun j s' v' hs hv=>by
  cases j with
  |zero=>simp only[List.getElem?_cons_zero,Option.some.injEq]at hs hv;subst hs;subst hv;exact h2
  |succ j=>simp at hs⟩
end
def Pf:Kd→Kd→Bool
 | .s,.s=>true
 | .b,.b=>true
 | .n a,.n b=>decide (a=b)
 | .r a,.r b=>decide (a=b)
 | .m a c,.m b d=>decide (a=b)&&decide (c=d)
 |_,_=>false
theorem Mf:∀ {a b:Kd},Pf a b=true→a=b:=by
 intro a b h;cases a <;>cases b <;>simp_all [Pf]
def JE:List Kd→List Kd→Bool
 | [],[] =>true
 |a::l,b::m=>Pf a b&&JE l m
 |_,_=>false
theorem FH:∀ {a b:List Kd},JE a b=true→a=b
 | [],[],_=>rfl
 |a::l,b::m,h=>by
  simp only[JE,Bool.and_eq_true]at h;rw[Mf h.1,FH h.2]
def x7 (P:Program)(g:TypeId→Option (List Kd)):List Field→Nat→Nat→Option (List Kd)
 | [],off,tot=>bif Nat.beq off tot then some []else none
 |f::r,off,tot=>match g f.type with
  |some a=>bif Nat.beq f.offset off&&Nat.beq a.length (P.cellsOf f.type)then(x7 P g r (off+a.length) tot).map (a++ ·)else none
  |none=>none
def Eh (a:List Kd):Nat→List Kd
 |0=>[]
 |n+1=>a++Eh a n
def x8 (P:Program):Nat→TypeId→Option (List Kd)
 |0,_=>none
 |n+1,t=>match P.underlying t with
  |some .bool=>some [.b]
  |some (.int k) =>some [.n k]
  |some .string=>some [.s]
  |some (.slice e) =>match A6 P e,x8 P n e with
   |some k,some ks=>bif JE ks (cP k)&&Nat.beq (P.cellsOf e) (aa k)&&Nat.ble 1 (aa k)then some [.r k]else none
   |_,_=>none
  |some (.struct fs) =>x7 P (x8 P n) fs.toList 0 (P.cellsOf t)
  |some (.array m e) =>match x8 P n e with
   |some a=>bif Nat.beq a.length (P.cellsOf e)&&Nat.beq (P.cellsOf t) (m*a.length)then some (Eh a m)else none
   |none=>none
  |_=>none
section
variable {H:Type}{enc:TypeId×Value→H}{P:Program}{F:Nat→Prop}{own:Own}{w:World}{base:Nat}{spare:Nat→Bool}{held:Bool}{S:DataW H→Prop}
theorem FI {g:TypeId→Option (List Kd)}(hg:∀ t ks,g t=some ks→∀ (fuel:Nat) (cs:List Value) (x:DataW H×List MemPlace),DataW.trod enc P w base spare held fuel t cs=some x→S x.1→RC F own w ks cs)
  (fuel:Nat) (cs:List Value):∀ (fs:List Field) (off:Nat) (ks:List Kd),x7 P g fs off cs.length=some ks→(∀ f∈fs,∃ x,DataW.trod enc P w base spare held fuel f.type ((cs.drop f.offset).take (P.cellsOf f.type))=some x∧S x.1)→RC F own w ks (cs.drop off)
 | [],off,ks,h,_=>by
  unfold x7 at h;cases hb:Nat.beq off cs.length with
  |false=>rw[hb]at h;cases h
  |true=>
   rw[hb]at h;have:off=cs.length:=Nat.eq_of_beq_eq_true hb;subst this;cases h;rw[List.drop_length];exact RC.nil
 |f::r,off,ks,h,hx=>by
  unfold x7 at h;cases ha:g f.type with
  |none=>rw[ha]at h;cases h
  |some a=>
   rw[ha]at h;dsimp only at h;cases hb:Nat.beq f.offset off&&Nat.beq a.length (P.cellsOf f.type)with
   |false=>rw[hb]at h;cases h
   |true=>
    rw[hb]at h;simp only[cond_true,Option.map_eq_some_iff]at h;obtain⟨ks2,h2,rfl⟩:=h;rw[Bool.and_eq_true]at hb;have e1:f.offset=off:=Nat.eq_of_beq_eq_true hb.1;have e2:a.length=P.cellsOf f.type:=Nat.eq_of_beq_eq_true hb.2;obtain⟨x,hx1,hs1⟩:=hx f (by simp);have h3:=hg _ _ ha _ _ _ hx1 hs1;have h4:=FI hg fuel cs r (off+a.length) ks2 h2 fun f hf=>hx f (by simp[hf]);have:=h3.app h4;rw[e1,←e2]at this
    rwa[←List.drop_drop,List.take_append_drop]at this
theorem FJ {e:TypeId}{a:List Kd}(ha:∀ (fuel:Nat) (cs:List Value) (x:DataW H×List MemPlace),DataW.trod enc P w base spare held fuel e cs=some x→S x.1→RC F own w a cs)
  (fuel:Nat):∀ (m:Nat) (cs:List Value),cs.length=m*a.length→(∀ i,i<m→∃ x,DataW.trod enc P w base spare held fuel e ((cs.drop (i*a.length)).take a.length)=some x∧S x.1)→RC F own w (Eh a m) cs
 |0,cs,h,_=>by
  have:cs=[]:=by simpa using h
  subst this;exact RC.nil
 |m+1,cs,h,hx=>by
  obtain⟨x,hx1,hs1⟩:=hx 0 (by omega);rw[Nat.zero_mul,List.drop_zero]at hx1;have h3:=ha _ _ _ hx1 hs1;have h4:=FJ ha fuel m (cs.drop a.length) (by rw[List.length_drop,h,Nat.succ_mul];omega) fun i hi=>by
   obtain⟨x,hx2,hs2⟩:=hx (i+1) (by omega);refine⟨x,?_,hs2⟩;rw[List.drop_drop]
   rwa[Nat.succ_mul,Nat.add_comm]at hx2
  have:=h3.app h4
  rwa[List.take_append_drop]at this
structure Small (S:DataW H→Prop):Prop where
 agg:∀ l,S (.agg l)→∀ d∈l,S d
 slice:∀ l m,S (.slice l m)→l.length≤bp∧∀ d∈l,S d
theorem mC (hS:Small S)(hown:∀ b,¬bU F own b):∀ (n:Nat) (t:TypeId) (ks:List Kd),x8 P n t=some ks→∀ (fuel:Nat) (cs:List Value) (x:DataW H×List MemPlace),DataW.trod enc P w base spare held fuel t cs=some x→S x.1→RC F own w ks cs
 |0,_,_,h,_,_,_,_,_=>by cases h
 |n+1,t,ks,h,fuel,cs,x,hx,hs=>by
  unfold x8 at h;split at h
  ·rename_i ht;cases h;obtain⟨b,rfl,rfl⟩:=DataW.trod_bool ht hx;exact RC.one (s:=.v (.bool b)) rfl (.v _)
  ·rename_i k ht;cases h;obtain⟨m,rfl,rfl,_⟩:=DataW.trod_int ht hx;exact RC.one (s:=.v (.int k m)) (by simp[fit]) (.v _)
  ·rename_i ht;cases h;obtain⟨b,rfl,rfl,_⟩:=DataW.trod_string ht hx;exact RC.one (s:=.v (.string b)) rfl (.v _)
  ·rename_i e ht;split at h
   ·rename_i k ks2 hk hks;cases hb:JE ks2 (cP k)&&Nat.beq (P.cellsOf e) (aa k)&&Nat.ble 1 (aa k)with
    |false=>rw[hb]at h;cases h
    |true=>
     rw[hb]at h;cases h;simp only[Bool.and_eq_true]at hb;have e1:=FH hb.1.1;have e2:P.cellsOf e=aa k:=Nat.eq_of_beq_eq_true hb.1.2;have e3:1≤aa k:=nbl hb.2;subst e1;rcases open_slice ht hx with⟨rfl,rfl⟩ | ⟨a,len,cap,m,f2,D,Pl,rfl,hb1,hl,hm,hmm,rfl,hel⟩
     ·exact RC.one (s:=.rs k []) (by simp[fit]) .rs0
     ·have hlm:len≤m:=by subst hmm;split <;>omega
      obtain⟨hs1,hs2⟩:=hS.slice _ _ hs;simp only[List.length_map,List.length_range]at hs1;have helt:∀ i,i<len→∃ cs',cs'.length=aa k∧(∀ j v,cs'[j]? =some v→w.cell? ((a.add (i*aa k)).add j)=some v)∧RC F own w (cP k) cs':=fun i hi=>by
       obtain⟨cs',h1,h2⟩:=hel i (by omega);have h3:=mC hS hown n e (cP k) hks f2 cs' _ h2 (hs2 _ (List.mem_map_of_mem (List.mem_range.2 hi)));unfold World.cells? at h1;split at h1
       ·refine⟨cs',by rw[mapM_some_length h1,List.length_range,e2],fun j v hj=>?_,h3⟩;have hlt:j<P.cellsOf e:=by
         have:=(List.getElem?_eq_some_iff.1 hj).1
         rwa[mapM_some_length h1,List.length_range]at this
        have:=mapM_some_get h1 j j (by simp[hlt]);rw[e2]at this;rw[this,hj]
       ·cases h1
      by_cases h0:len=0
      ·subst h0;exact RC.one (s:=.rs k []) (by simp[fit]) .rs0
      ·have hsp:a.spot=none:=by
        obtain⟨cs',h1,h2,_⟩:=helt 0 (by omega);have:=h2 0 (cs'[0]'(by omega)) (by rw[List.getElem?_eq_getElem]);rw[Nat.zero_mul]at this;simp only[Addr.add,if_true]at this;unfold World.cell? at this;split at this
        ·cases hsp:a.spot with
         |none=>rfl
         |some q=>rw[hsp]at this;simp at this
        ·cases this
       obtain⟨ab,ao,asp⟩:=a;dsimp only at hsp;subst hsp
       haveI:Inhabited k.T:=⟨cV k⟩
       obtain⟨X,hX⟩:=choose_lt (p:=fun i (x:k.T) =>∀ (j:Nat) (s:SV),(cellsOf k x)[j]? =some s→∃ v,w.cell? ⟨ab,ao+i*aa k+j,none⟩=some v∧Rel F own w s v) (n:=len) fun i hi=>by
        obtain⟨cs',h1,h2,l,h3,h4,h5⟩:=helt i hi;refine⟨mkE k l,fun j s hj=>?_⟩;rw[kI (k:=k) (l:=l) (x:=mkE k l) (by unfold l5;rw[h3];rfl)]at hj;have hlt:j<cs'.length:=by
         have:=(List.getElem?_eq_some_iff.1 hj).1;omega
        refine⟨cs'[j],?_,h5 j s _ hj (List.getElem?_eq_getElem hlt)⟩;have:=h2 j cs'[j] (List.getElem?_eq_getElem hlt);have hadd:∀ p q,((⟨ab,ao,none⟩:Addr).add p).add q=⟨ab,ao+p+q,none⟩:=fun p q=>by
         unfold Addr.add;by_cases hp:p=0 <;>by_cases hq:q=0 <;>simp[hp,hq]
        rwa[hadd]at this
       have hL:((List.range len).map X).length=len:=by simp
       refine RC.one (s:=.rs k ((List.range len).map X)) (by simp[fit]) ?_;have hget:∀ (i:Nat) (x:k.T),((List.range len).map X)[i]? =some x→i<len∧x=X i:=fun i x hi=>by
        obtain⟨h1,h2⟩:=List.getElem?_eq_some_iff.1 hi;rw[hL]at h1;simp only[List.getElem_map,List.getElem_range]at h2;subst h2;exact⟨h1,rfl⟩
       have:=Rel.rs (F:=F) (own:=own) (w:=w) (k:=k) (l:=(List.range len).map X) (b:=ab) (o:=ao) (cap:=cap) (fun i j=>(w.cell? ⟨ab,ao+i*aa k+j,none⟩).getD undef) (by rw[hL];exact hl) (by rw[hL];exact hs1)
        (fun i x hi j s hj=>by
         obtain⟨h1,rfl⟩:=hget i x hi;obtain⟨v,h2,_⟩:=hX i h1 j s hj;exact⟨hown _,by rw[h2];rfl⟩)
        (fun i x hi j s hj=>by
         obtain⟨h1,rfl⟩:=hget i x hi;obtain⟨v,h2,h3⟩:=hX i h1 j s hj;rw[h2];exact h3)
       rwa[hL]at this
   ·cases h
  ·rename_i fs ht;obtain⟨xs,m,rfl,rfl,hl,hlen,hf⟩:=DataW.trod_struct ht hx;rw[←hl]at h;have:=FI (mC hS hown n) m cs fs.toList 0 ks h fun f hfm=>by
    obtain⟨i,hi,rfl⟩:=List.getElem_of_mem hfm;have hi':i<fs.size:=by simpa using hi
    have h1:=hf i fs[i] (by simp[hi']);rw[List.getElem?_eq_getElem (by omega)]at h1;refine⟨_,by simpa using h1,hS.agg _ hs _ (List.mem_map_of_mem (List.getElem_mem _))⟩
   simpa using this
  ·rename_i m e ht;split at h
   ·rename_i a ha;cases hb:Nat.beq a.length (P.cellsOf e)&&Nat.beq (P.cellsOf t) (m*a.length)with
    |false=>rw[hb]at h;cases h
    |true=>
     rw[hb]at h;cases h;rw[Bool.and_eq_true]at hb;have e1:a.length=P.cellsOf e:=Nat.eq_of_beq_eq_true hb.1;have e2:P.cellsOf t=m*a.length:=Nat.eq_of_beq_eq_true hb.2;obtain⟨xs,f2,rfl,rfl,hl,hlen,hf⟩:=DataW.trod_array ht hx;refine FJ (mC hS hown n e a ha) f2 m cs (by rw[hl,e2]) fun i hi=>?_;have h1:=hf i hi;rw[List.getElem?_eq_getElem (by omega),←e1]at h1;exact⟨_,h1,hS.agg _ hs _ (List.mem_map_of_mem (List.getElem_mem _))⟩
   ·cases h
  ·cases h
end
end Go.Sx
end
section
namespace Go.Sx
open Go.Proofs
section
variable {F:Nat→Prop}{own:Own}{w:World}
theorem Mg {k:Tag}{cs:Array Value}(h:RC F own w (cP k) cs.toList):∃ x:k.T,Rel F own w (.agg (cellsOf k x)) (.agg cs):=by
 obtain⟨l,h3,h4,h5⟩:=h;refine⟨mkE k l,?_⟩;rw[kI (k:=k) (l:=l) (x:=mkE k l) (by unfold l5;rw[h3];rfl)];refine .agg (by simpa using h4.symm) fun j s hj=>?_;have hlt:j<cs.size:=by
  have:=(List.getElem?_eq_some_iff.1 hj).1;simpa[h4]using this
 exact h5 j s _ hj (by simp[Array.getD,hlt])
theorem Pg {k:Tag}{v:Value}(h:RC F own w [.r k] [v]):∃ l:List k.T,Rel F own w (.rs k l) v:=by
 obtain⟨l,h3,h4,h5⟩:=h;obtain⟨x,r,rfl,h6,h7⟩:=jX h3;have h8:=h5 0 x v rfl rfl;cases x with
 |rs k' l'=>
  have:k=k':=by
   simp only[fit]at h6;exact nD h6
  subst this;exact⟨l',h8⟩
 |_=>simp[fit]at h6
end
end Go.Sx
end
section
namespace Go.Sx
open Go.ChangeShapes Go.RowKit Go.WideShapes
section
variable {H:Type}{enc:TypeId×Value→H}{P:Program}
def Mh (P:Program):List TypeId→Bool
 | [] =>true
 |t::r=>P.readableRec t&&Nat.blt t P.types.size&&Mh P r
theorem zz (hl:laidOutB P=true){W W':World}(hg:Below W.heap.size W W'):∀ {ts:List TypeId} {vs:List Value} {ds:List (DataW H)} {ps:List MemPlace},Mh P ts=true→
  DataW.TrodAll enc P W 0 (fun _=>true) true ts vs ds ps→(∀ x∈ps,x.block<W.heap.size)→DataW.TrodAll enc P W' 0 (fun b=>decide (b<W.heap.size)) true ts vs ds ps
 | [],vs,ds,ps,_,h,_=>by
  obtain⟨rfl,rfl,rfl⟩:=trodAll_nil h;exact trodAll_mk0
 |t::ts,vs,ds,ps,hk,h,hlt=>by
  unfold Mh at hk;rw[Bool.and_eq_true,Bool.and_eq_true]at hk;obtain⟨v,vs',d,ds',p,q,rfl,rfl,rfl,h1,h2⟩:=trodAll_cons h;refine trodAll_cons_mk (WideElems.Trod_stays hl hk.1.1 (by simpa[Nat.blt_eq]using hk.1.2) h1 (fun x hx=>hg.same (hlt x (List.mem_append_left _ hx))) (fun x hx=>by simpa using hlt x (List.mem_append_left _ hx))) ?_;exact zz hl hg hk.2 h2 fun x hx=>hlt x (List.mem_append_right _ hx)
theorem JF (hl:laidOutB P=true){f:Func}{s:ChangeSpec}{W W':World}{args:Array Value}{ds gs:List (DataW H)}{before:List MemPlace}{t:TypeId}
  (hk:Mh P f.params.toList=true) (hW:DataW.Whole enc P f.params.toList s.vars false W args.toList ds gs before)
  (hr:f.resultTypes= #[t]) (ht:P.underlying t=some .bool) (hv:s.vars=[]) (h1:(s.fn H (ds++gs)).results=[.lit (.bool true)]) (h2:(s.fn H (ds++gs)).args=ds) (h3:(s.fn H (ds++gs)).vars=[])
  (hg:Below W.heap.size W W'):s.post enc P f false true false false W args (.bool true) W':=by
 have hlt:=hW.lt;have hW0:=hW;obtain⟨p,q,hA,hV,rfl,_,_⟩:=hW;rw[hv]at hV;obtain⟨rfl,rfl⟩:=trodVars_none hV;refine⟨ds,[],p++[],[],p,[],hW0,?_,?_,?_,?_,fun h=>by cases h⟩
 ·rw[h1,hr];exact trodAll_cons_mk (shut_bool ht _) trodAll_mk0
 ·rw[h2];exact zz hl hg hk hA fun x hx=>hlt x (by simpa using hx)
 ·rw[h3,hv];rfl
 ·exact World.keptBut_mono (fun x hx=>⟨hx,.inr (.inl (by simpa using hx))⟩) (hg.frame (· ∈p++[]))
end
end Go.Sx
end
section
namespace Go.Proofs.YtgdkdhdlfdcefaaGreat.bulks
theorem one_le {H:Type}(d:DataW H):1≤Rows.uptoBulk d:=by
 cases d with
 |lit l=>cases l <;>simp[Rows.uptoBulk]
 |nil=>simp[Rows.uptoBulk]
 |ptr d=>simp[Rows.uptoBulk]
 |slice lw spare=>simp[Rows.uptoBulk]
 |agg parts=>simp[Rows.uptoBulk]
 |iface t d=>simp[Rows.uptoBulk]
 |map entries=>simp[Rows.uptoBulk]
 |held h=>simp[Rows.uptoBulk]
theorem part_le {H:Type}{d:DataW H}{l:List (DataW H)}(h:d∈l):Rows.uptoBulk d≤Rows.uptoBulkAll l:=by
 induction l with
 |nil=>cases h
 |cons x r ih=>
  simp only[Rows.uptoBulkAll];cases List.mem_cons.1 h with
  |inl e=>subst e;omega
  |inr e=>have:=ih e;omega
theorem append {H:Type}(l r:List (DataW H)):Rows.uptoBulkAll (l++r)=Rows.uptoBulkAll l+Rows.uptoBulkAll r:=by
 induction l with
 |nil=>simp[Rows.uptoBulkAll]
 |cons x l ih=>simp only[List.cons_append,Rows.uptoBulkAll,ih];omega
theorem length_le {H:Type}(l:List (DataW H)):l.length≤Rows.uptoBulkAll l:=by
 induction l with
 |nil=>simp[Rows.uptoBulkAll]
 |cons x r ih=>have:=one_le x;simp only[Rows.uptoBulkAll,List.length_cons];omega
theorem slice_le {H:Type}(lw spare:List (DataW H)):lw.length+spare.length+1≤Rows.uptoBulk (.slice lw spare):=by
 have h1:=length_le lw;have h2:=length_le spare;simp only[Rows.uptoBulk];omega
theorem slice_elems {H:Type}(lw spare:List (DataW H)):Rows.uptoBulkAll lw+1≤Rows.uptoBulk (.slice lw spare):=by
 simp only[Rows.uptoBulk];omega
theorem bound {H:Type}{l:List (DataW H)}(hk:Rows.uptoSmall H l=true):Rows.uptoBulkAll l≤1048576:=by
 simpa[Rows.uptoSmall]using hk
theorem room {n b:Nat}(hn:n≤2097152)(hb:b≤4096):(n+n / 4+192)*b≤281474976710656:=by
 have h:(n+n / 4+192)*b≤2621632*4096:=Nat.mul_le_mul (by omega) hb;omega
end Go.Proofs.YtgdkdhdlfdcefaaGreat.bulks
end
section
namespace Go.Proofs.YtgdkdhdlfdcefaaGreat.claimsTrespass
open Go.ChangeShapes Go.WideShapes Go.ChangeAt Go.RowKit Go.Sx
set_option linter.unusedVariables false
theorem con_eq (x0:Tag.district.T)(x1:List Tag.deed.T)(x2:Int)(x3:Int)(x4:Int):gj [.agg (cellsOf .district x0),.rs .deed x1,.v (.int .i64 x2),.v (.int .i64 x3),.v (.int .i64 x4)]=some (.det (du x0 x1 x2 x3 x4) (.v (.bool (dK x0 x1 x2 x3 x4)))):=by
 unfold gj;simp only[go_sem,Nat.reduceBEq]
theorem call_true {W:World}{cs0:Array Value}(h0:RC (fun _=>False) cm W (cP .district) cs0.toList){v1:Value}(h1:RC (fun _=>False) cm W [.r .deed] [v1])(x2:Int)(h2:(-9223372036854775808)≤x2∧x2≤9223372036854775807)(x3:Int)(h3:(-9223372036854775808)≤x3∧x3≤9223372036854775807)(x4:Int)(h4:(-9223372036854775808)≤x4∧x4≤9223372036854775807):
  Calls Tryz.prog 6 #[.agg cs0,v1,.int .i64 x2,.int .i64 x3,.int .i64 x4] W (fun e W'=>e=.returned (.bool true)∧Below W.heap.size W W'):=by
 obtain⟨x0,r0⟩:=Mg h0;obtain⟨x1,r1⟩:=Pg h1;refine(oa.calls _ _ (con_eq x0 x1 x2 x3 x4) (Md x0 x1 x2 x3 x4 h2 h3 h4) (fun _=>False) W _ (fun b h=>h.elim) ⟨rfl,fun j s hj=>?_⟩).mono fun e W' he=>?_
 ·match j,hj with
  |0,hj=>cases hj;exact r0
  |1,hj=>cases hj;exact r1
  |2,hj=>cases hj;exact .v _
  |3,hj=>cases hj;exact .v _
  |4,hj=>cases hj;exact .v _
 ·rcases he with⟨s,u,own',hs,rfl,hh,hb⟩ | ⟨x,hx,_⟩
  ·simp only[cX]at hs;subst hs;rw[Me x0 x1 x2 x3 x4 h2 h3 h4]at hh;have:=hh.val;simp only[pl]at this;rw[bT this];exact⟨rfl,hb⟩
  ·exact hx.elim
theorem own:ownKnob Tryz.prog.godebug=none:=by kernel_rfl
theorem small (H:Type):Small (fun d:DataW H=>Rows.uptoBulk d≤1048576) where
 agg l h d hd:=by
  have h1:=bulks.part_le hd;simp only[Rows.uptoBulk]at h;omega
 slice l m h:=by
  have h1:=bulks.slice_le l m;have h2:=bulks.slice_elems l m;refine⟨by unfold bp;omega,fun d hd=>?_⟩;have:=bulks.part_le hd;omega
theorem laid:laidOutB Tryz.prog=true:=by kernel_rfl
set_option maxRecDepth 100000 in
theorem contract (H:Type)(enc:TypeId×Value→H)(W:World)(base:Nat)(args:Array Value)(ds gs:List (DataW H))(before:List MemPlace)
  (hval:∀ (j:Nat) t v,Tryz.f6.params[j]? =some t→args[j]? =some v→Value.okWide Tryz.prog W .any base t v)
  (hW:DataW.Whole enc Tryz.prog Tryz.f6.params.toList Rows.claimsTrespassSpec.vars false W args.toList ds gs before) (hk:Rows.uptoSmall H (ds++gs)=true):
  Calls Tryz.prog 6 args W fun e W'=>∃ v,e=.returned v∧Rows.claimsTrespassSpec.post enc Tryz.prog Tryz.f6 false true false false W args v W':=by
 have hW':=hW;obtain⟨p,q,hA0,hV,rfl,hfz,hnd⟩:=hW;have hA:DataW.TrodAll enc Tryz.prog W 0 (fun _=>true) true Tryz.f6.params.toList args.toList ds p:=hA0;rw[Tryz.params6]at hA hval;obtain⟨v0,vs0,d0,ds0,p0,q0,hargs,rfl,rfl,h0,r0⟩:=trodAll_cons hA;obtain⟨v1,vs1,d1,ds1,p1,q1,rfl,rfl,rfl,h1,r1⟩:=trodAll_cons r0;obtain⟨v2,vs2,d2,ds2,p2,q2,rfl,rfl,rfl,h2,r2⟩:=trodAll_cons r1;obtain⟨v3,vs3,d3,ds3,p3,q3,rfl,rfl,rfl,h3,r3⟩:=trodAll_cons r2;obtain⟨v4,vs4,d4,ds4,p4,q4,rfl,rfl,rfl,h4,r4⟩:=trodAll_cons r3;obtain⟨rfl,rfl,rfl⟩:=trodAll_nil r4;obtain rfl:args= #[v0,v1,v2,v3,v4]:=by cases args;simp_all
 obtain⟨rfl,rfl⟩:=trodVars_none hV;have hb:=bulks.bound hk;simp only[Rows.uptoBulkAll,List.append_nil,List.cons_append,List.nil_append]at hb;have ho:∀ b,¬bU (fun _=>False) cm b:=fun b h=>by
  rcases h with h| ⟨_,_,h,_⟩
  ·exact h
  ·cases h
 have s0:∃ cs,v0=.agg cs:=by
  have:=hval 0 31 v0 rfl rfl;simp only[Value.okWide,Tryz.underlying31]at this;exact⟨_,this.choose_spec.1⟩
 obtain⟨cs0,rfl⟩:=s0;obtain⟨a1,l1,c1,rfl⟩:=okWide_slice Tryz.underlying32 (hval 1 32 v1 rfl rfl);obtain⟨a2,rfl,rfl,rfl,w2⟩:=open_int Tryz.underlying3 (hval 2 3 v2 rfl rfl) h2;have R2:(-9223372036854775808)≤a2∧a2≤9223372036854775807:=by simpa[Lit.wf,IntKind.min,IntKind.max,IntKind.signed,IntKind.bits]using w2
 obtain⟨a3,rfl,rfl,rfl,w3⟩:=open_int Tryz.underlying3 (hval 3 3 v3 rfl rfl) h3;have R3:(-9223372036854775808)≤a3∧a3≤9223372036854775807:=by simpa[Lit.wf,IntKind.min,IntKind.max,IntKind.signed,IntKind.bits]using w3
 obtain⟨a4,rfl,rfl,rfl,w4⟩:=open_int Tryz.underlying3 (hval 4 3 v4 rfl rfl) h4;have R4:(-9223372036854775808)≤a4∧a4≤9223372036854775807:=by simpa[Lit.wf,IntKind.min,IntKind.max,IntKind.signed,IntKind.bits]using w4
 have R0:RC (fun _=>False) cm W (cP .district) cs0.toList:=by
  obtain⟨f,hf⟩:=h0;exact mC (n:=6) (t:=31) (small H) ho _ kr f _ _ hf (by show Rows.uptoBulk d0≤_;omega)
 have R1:RC (fun _=>False) cm W [.r .deed] [.slice a1 l1 c1]:=by
  obtain⟨f,hf⟩:=h1;exact mC (n:=6) (t:=32) (small H) ho _ kr f _ _ hf (by show Rows.uptoBulk d1≤_;omega)
 refine(call_true R0 R1 _ R2 _ R3 _ R4).mono fun e W' ⟨he,hg⟩ =>?_;subst he;exact⟨_,rfl,JF laid kr hW' kr Tryz.underlying4 rfl rfl rfl rfl hg⟩
def zeroV:Kd→Value
 | .n k=>.int k 0
 | .b=>.bool false
 | .s=>.string (ByteArray.mk #[])
 | .r _=>.slice none 0 0
 | .m _ _=>.map none
 | .f=>.nilFunc
def wit:Array Value:= #[.agg ((cP .district).map zeroV).toArray,.slice none 0 0,.int .i64 0,.int .i64 0,.int .i64 0]
set_option maxRecDepth 100000 in
theorem lifted (os:Os)(started:os.Started)(H:Type)(enc:TypeId×Value→H)(F:Stop.Interp):
  ReturnsInHanded {} Tryz.checked os 6 .any ((Rows.OpenSpec.upto Rows.claimsTrespassSpec).pre6 enc Tryz.prog Tryz.f6 Rows.claimsTrespassUptoRow.domain false) (((Rows.OpenSpec.upto Rows.claimsTrespassSpec).at F).post enc Tryz.prog Tryz.f6 false true false false):=by
 refine returnsInHanded_of_cond (C:=Tryz.checked) (s:=Rows.OpenSpec.upto Rows.claimsTrespassSpec) (k:=Rows.uptoSmall) rfl own started kr Tryz.func6
  (OpenSpec.witness (enc:=enc) (C:=Tryz.checked) (s:=Rows.OpenSpec.upto Rows.claimsTrespassSpec) (k:=Rows.uptoSmall) rfl false ⟨#[],wit,[]⟩ 8 kr kr kr
   (x:=(DataW.whole enc Tryz.prog (World.plainHolding Tryz.prog os ⟨#[],wit,[]⟩).memory Tryz.f6.params.toList Rows.claimsTrespassSpec.vars false wit.toList 8).getD ([],[],[])) kr rfl kr) ?_
 intro W base args ds gs before hval hW _ hk _;exact contract H enc W base args ds gs before hval hW hk
theorem over:Rows.claimsTrespassUptoRow.holds Tryz.pinned (Rows.OpenSpec.upto Rows.claimsTrespassSpec):=
 OpenClaim.holds_of_cond 6 Tryz.f6 rfl rfl rfl rfl rfl rfl rfl ⟨rfl,rfl,rfl,rfl,rfl⟩ rfl rfl rfl rfl rfl kr Tryz.func6 kr
  (of_decide_eq_true kr) (by unfold Func.isWrapper;first|(rw[if_pos (by decide+kernel)];kernel_rfl) |(rw[if_neg (by decide+kernel)];exact⟨rfl,rfl⟩))
  (fun os started H enc _ F=>lifted os started H enc F)
theorem proved:Rows.ClaimsTrespassUptoSaid:=over
end Go.Proofs.YtgdkdhdlfdcefaaGreat.claimsTrespass
end
