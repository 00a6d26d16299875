/- Part of the proof that the law RefuseLess returns true and leaves its arguments as they were, for all arguments of bulk at most 1048576 (the Upto form). -/
import Derived.Test.YtaikmgjfkejlkaaGreatF114
import Derived.Test.YtaikmgjfkejlkaaGreatF111
import Derived.Test.YtaikmgjfkejlkaaGreatF107
import Derived.Test.YtaikmgjfkejlkaaGreatF108
import Derived.Test.YtaikmgjfkejlkaaGreatF106
import Derived.Deep.Slices
import Derived.OpenShut
import Derived.ChangeSame
import Derived.WideKeyArgs
import Derived.Below
import Derived.Test.YtaikmgjfkejlkaaGreatRows
set_option linter.all false
set_option maxHeartbeats 4000000
set_option maxRecDepth 100000
section
namespace Go.Sx
open Go.Proofs
def tS (ee:Int):ape:=({ name:=(ByteArray.mk #[]),kind:=1,ee:=ee,reach:=0,aoX:=0,dd:=6,since:=1,to:=3,every:=1,length:=1}:ape)
@[go_sem] def HK:List SV->Option Con:=(pI λee=>(pE (.det True (.agg (cellsOf .right (tS ee))))))
def GB:B1 Tryz.prog 64 HK:=by
 have hG:=mG P0 P0;refine fN hG Tryz.f64 [.st .right] (ay λee=>(am (λE=>?_)));dsimp only[an]at E;refine⟨nbl rfl,L0,ag _,?_⟩;unfold ae Tryz.f64;try unfold tS
 exact zq2
def bQ:ah:=({ name:=(ByteArray.mk #[]),hours:=4,Y2:=({ cap:=99,start:=99}:apV),reaches:=[({ name:=(ByteArray.mk #[]),up:=(-1),delay:=1,cap:=10,aph:=50,aoU:=0,apu:=({ lo:=0,hi:=0}:Range),apc:=(({ n:=0,d:=1}:G2),({ n:=0,d:=1}:G2))}:Reach)],u0:=[({ name:=(ByteArray.mk #[]),reach:=0,aqr:=0,apy:=(-1)}:apQ),({ name:=(ByteArray.mk #[]),reach:=0,aqr:=0,apy:=(-1)}:apQ)],ao1:=[],al:=[(tS 0),(tS 1)],aoT:=[],apn:=[]}:ah)
@[go_sem] def HL:List SV->Option Con:=(pE (.det True (.agg [.v (.string ((bQ).name)),.v (.int .i64 ((bQ).hours)),.v (.int .i64 ((bQ).Y2.cap)),.v (.int .i64 ((bQ).Y2.start)),.nw .reach ((bQ).reaches),.nw .ee ((bQ).u0),.v (.slice none 0 0),.nw .right ((bQ).al),.v (.slice none 0 0),.v (.slice none 0 0)])))
def GC:B1 Tryz.prog 24 HL:=by
 have hG:=mG (cp GB P0) P0;refine fE hG Tryz.f24 (am (λE=>?_));dsimp only[an]at E;refine⟨nbl rfl,L0,ag _,?_⟩;unfold ae Tryz.f24;try unfold bQ
 exact zq2
def xP (r:aoV):Bool:=((decide ((r.al.length:Int)<=60))&&(decide ((r.ao4.length:Int)<=300)))
@[go_sem] def Np:List SV->Option Con:=(pD .refusal λr=>(pE (.det True (.v (.bool (xP r))))))
def KU:B1 Tryz.prog 14 Np:=by
 have hG:=mG P0 P0;refine fN hG Tryz.f14 [.o] (av λr=>(am (λE=>?_)));dsimp only[an]at E;refine⟨nbl rfl,L0,ag _,?_⟩;unfold ae Tryz.f14;try unfold xP
 exact zq2
@[go_sem] def AK (l_:List Int)(n:Int)(S2:Nat)(ly:Unit):Unit⊕Unit:=(bif((l_.getD S2 0) ==n)then .inl ()else .inr ())
def uQ (l_:List Int)(n:Int):Bool:=(match aj (AK l_ n) l_.length 0 ()with| .inl pq=>true| .inr ly=>false)
@[go_sem] def Nq:List SV->Option Con:=(pR .int λl_=>(pI λn=>(pE (.det True (.v (.bool (uQ l_ n)))))))
def KV:B1 Tryz.prog 53 Nq:=by
 have hG:=mG P0 P0;refine fN hG Tryz.f53 [.o] (bN λU=>(ay λn=>(am (λX=>?_))));dsimp only[an]at X;refine⟨nbl rfl,(λid st=>bif Nat.beq id 0 then some (LCR (ρ:=Unit) (σ:=Unit) 0 [] [] (λE O=>⟨[(0,.rs .int U),(1,.v (.int .i64 n)),(5,.v (.int .i64 (E:Int)))],[]⟩) (AK U n) pT U.length () (True) (λ_=>.ret) (λV=>⟨[(4,.v (.bool true))],[]⟩) st)else none),?_,?_⟩;unfold ae Tryz.f53;simp only[ak,true_and,and_true];refine eF (U.length<=aK) mixed aD hG kr (λ_=>rfl) (U.length:Int) rfl fM (λhb0 E O W _ hw hc=>⟨L0,ag _,?_⟩) (λhb0 O hc=>?_) λhb0 E O=>?_;exact bG (jl []);exact bH (jl []);exact zq8;unfold ae Tryz.f53;try unfold uQ
 exact zq2
@[go_sem] def gB (c:List Claim)(S2:Nat)(k_1:Nat)(s_1:List Int):Empty⊕(List Int):=(bif(((c.getD k_1 default).right==(S2:Int))&&(!(uQ s_1 (S2:Int))))then .inr (s_1++([(S2:Int)]))else .inr s_1)
def lw (c:List Claim)(S2:Nat)(k_1:Nat)(s_1:List Int):Prop:=(c.length<=aK->((((c.getD k_1 default).right==(S2:Int))&&(!(uQ s_1 (S2:Int))))=true->((s_1++([(S2:Int)])).length*8<=d9)))
@[go_sem] def nK (d:ah)(c:List Claim)(S2:Nat)(ly:List Int):Empty⊕(List Int):=(match aj (gB c S2) c.length 0 ly with| .inl x=>x.elim| .inr s_1=>.inr s_1)
def pc (d:ah)(c:List Claim)(S2:Nat)(ly:List Int):Prop:=(d.al.length<=aK->okI (gB c S2) (lw c S2) c.length 0 ly)
def vL (d:ah)(c:List Claim):List Int:=(match aj (nK d c) d.al.length 0 ([])with| .inl x=>x.elim| .inr ly=>ly)
def pd (d:ah)(c:List Claim):Prop:=okI (nK d c) (pc d c) d.al.length 0 ([])
@[go_sem] def GD:List SV->Option Con:=(pD .bh λd=>(pR .C1 λc=>(pE (.det (pd d c) (.rs .int (vL d c))))))
def Dg:B1 Tryz.prog 28 GD:=by
 have hG:=mG (cn [.sl .int,.o] KV P0) P0;refine fN hG Tryz.f28 [.sl .int] (av λd=>(bN λc=>(am (λY=>?_))));dsimp only[an]at Y;unfold pd at Y;refine⟨nbl rfl,(λid st=>bif Nat.beq id 0 then some (LCR (ρ:=Empty) (σ:=(List Int)) 1 [.slot 5 (.row .int ([]))] [0,1] (λE O=>⟨[(1,.rs .C1 c),(2,.ptr 0 0),(5,.os 1),(6,.v (.int .i64 (E:Int)))],[.cells (cellsOf .bh d),.row .int O]⟩) (nK d c) (pc d c) d.al.length ([]) (True) ((·.elim)) ((·.elim)) st)else none),?_,?_⟩;unfold ae Tryz.f28;simp only[ak,true_and,and_true];refine eF (d.al.length<=aK) mixed aD hG kr (λ_=>rfl) (d.al.length:Int) rfl fM (λhb0 E O X W hw hc=>⟨(λid st=>bif Nat.beq id 2 then some (LCR (ρ:=Empty) (σ:=(List Int)) 2 [] [0,1,1] (λV U=>⟨[(1,.rs .C1 c),(2,.ptr 0 0),(5,.os 2),(6,.v (.int .i64 (E:Int))),(7,.v (.int .i64 (V:Int)))],[.cells (cellsOf .bh d),.dead,.row .int U]⟩) (gB c E) (lw c E) c.length O (True) ((·.elim)) ((·.elim)) st)else none),?_,?_⟩) (λhb0 O hc=>?_) λhb0 E O=>?_;simp only[ak,true_and,and_true];refine eF (c.length<=aK) mixed aD hG kr (λ_=>rfl) (c.length:Int) rfl fM (λhb1 V U aqc hq1 hw hc=>⟨L0,ag _,?_⟩) (λhb1 U hc=>?_) λhb1 V U=>?_;unfold lw at hq1;try simp only[hw,alv]at hq1
 exact sM (jl [0,1,4]) (jl [0,1,2]);exact sN (jl [0,1,4]) (jl [0,1,2]);exact OL;unfold pc at W;try simp only[hw,alv]at W
 exact sM (jl [0,2]) (jl [0,1]);exact sN (jl [0,2]) (jl [0,1]);exact zq8;unfold ae Tryz.f28;try unfold vL
 exact zq2
def xQ (d:ah)(l_:List bl)(fr:Int)(to:Int)(known:Int):Bool:=letI q0:=nk d l_ fr to known;letI q1:=((vL d (q0.1)).length:Int);(bif((!(xH d l_ fr to)) ||(!(xO d ([]))))then false else(bif(q0.2 !=0)then true else((decide (((q0.1).length:Int)<=60))&&((decide (q1<=6)) ||(decide (q1 > 10))))))
def tT (d:ah)(l_:List bl)(fr:Int)(to:Int)(known:Int):Prop:=(((!(xH d l_ fr to)) ||(!(xO d ([]))))=false->((vz d l_ fr to known)/\(((nk d l_ fr to known).2 !=0)=false->(pd d ((nk d l_ fr to known).1)))))
@[go_sem] def Nr:List SV->Option Con:=(pD .bh λd=>(pR .x6 λl_=>(pI λfr=>(pI λto=>(pI λknown=>(pE (.det (tT d l_ fr to known) (.v (.bool (xQ d l_ fr to known))))))))))
def KW:B1 Tryz.prog 10 Nr:=by
 have hG:=mG (cn [.st .bh,.sl .x6,.o,.o] Ki (cn [.st .bh,.sl .C1] KT (cn [.st .bh,.sl .x6,.o,.o,.o] MI (cn [.st .bh,.sl .C1] Dg P0)))) P0;refine fN hG Tryz.f10 [.o] (av λd=>(bN λO=>(ay λfr=>(ay λto=>(ay λknown=>(am (λE=>?_)))))));dsimp only[an]at E;unfold tT at E;refine⟨nbl rfl,L0,ag _,?_⟩;unfold ae Tryz.f10;try unfold xQ
 exact zq2
def g_:=({ al:=[],kind:=0,reach:=0,hour:=0,ao4:=[]}:aoV)
def ia:=({ al:=[2],kind:=0,reach:=0,hour:=0,ao4:=[]}:aoV)
def dV:=({ name:=bQ.name,hours:=bQ.hours,Y2:=bQ.Y2,reaches:=bQ.reaches,u0:=bQ.u0,ao1:=[],al:=bQ.al,aoT:=[],apn:=[]}:ah)
def fG:=(gq dV ([]) 2 3 0)
def cJ:=(fG.1)
def ib:=(cJ.al)
def j7:=(cJ.ao4)
def fe:=(ib.length:Int)
def iN:=(j7.length:Int)
def ny:=(ib.getD 1 (0:Int))
def kX:=(ib.getD 0 (0:Int))
def jG:=(j7.getD 0 (default:A1))
def jH:=(ba dV ([]) 2 3 0 g_)
def nz:=(ba dV ([]) 2 3 0 ia)
def nA:=(ba dV ([]) 3 2 0 cJ)
def jI:=(ba dV ([]) 2 3 0 cJ)
def nB:=({ name:=bQ.name,hours:=bQ.hours,Y2:=bQ.Y2,reaches:=(bQ.reaches.set 0 ({ name:=(bQ.reaches.getD 0 (default:Reach)).name,up:=(bQ.reaches.getD 0 (default:Reach)).up,delay:=(bQ.reaches.getD 0 (default:Reach)).delay,cap:=12,aph:=(bQ.reaches.getD 0 (default:Reach)).aph,aoU:=(bQ.reaches.getD 0 (default:Reach)).aoU,apu:=(bQ.reaches.getD 0 (default:Reach)).apu,apc:=(bQ.reaches.getD 0 (default:Reach)).apc}:Reach)),u0:=bQ.u0,ao1:=[],al:=bQ.al,aoT:=[],apn:=[]}:ah)
def jJ:=(gq nB ([]) 2 3 0)
def qe:Bool:=(bif((((((((((fG.2.2 !=0) ||(jI.2 !=0)) ||(jH.2 !=0)) ||(nz.2 !=290)) ||(nA.2 !=1)) ||(jJ.2.2 !=0)) ||(!fG.2.1)) ||(!jI.1)) ||jH.1) ||jJ.2.1)then false else((((((((fe==2)&&(kX==0))&&(ny==1))&&(cJ.kind==1))&&(cJ.reach==0))&&(cJ.hour==1))&&(iN==1))&&((jG.reach==0)&&((jG.hour==1)&&((jG.dd==12)&&(jG.wanted==12))))))
def pe:Prop:=((mI dV ([]) 2 3 0)/\((e_ dV ([]) 2 3 0 cJ)/\((e_ dV ([]) 2 3 0 g_)/\((e_ dV ([]) 2 3 0 ia)/\((e_ dV ([]) 3 2 0 cJ)/\((0<=0/\0< (bQ.reaches.length:Int))/\((mI nB ([]) 2 3 0)/\(((((((((((fG.2.2 !=0) ||(jI.2 !=0)) ||(jH.2 !=0)) ||(nz.2 !=290)) ||(nA.2 !=1)) ||(jJ.2.2 !=0)) ||(!fG.2.1)) ||(!jI.1)) ||jH.1) ||jJ.2.1)=false->(ib.length<=aK->(((fe==2)=true->(0<=0/\0<fe))/\((((fe==2)&&(kX==0))=true->(0<=1/\1<fe))/\((((((((fe==2)&&(kX==0))&&(ny==1))&&(cJ.kind==1))&&(cJ.reach==0))&&(cJ.hour==1))&&(iN==1))=true->(0<=0/\0<iN)))))))))))))
@[go_sem] def KX:List SV->Option Con:=(pE (.det (pe) (.v (.bool (qe)))))
def HM:B1 Tryz.prog 9 KX:=by
 have hG:=mG (cn [.st .bh,.sl .x6,.o,.o,.o] HJ (cn [.st .bh,.sl .x6,.o,.o,.o,.st .refusal] vY (cp GC P0))) P0;refine fN hG Tryz.f9 [.o] (am (λE=>?_));dsimp only[an]at E;unfold pe at E;try simp only[g_,ia,dV,fG,cJ,ib,j7,fe,iN,ny,kX,jG,jH,nz,nA,jI,nB,jJ]at E
 refine⟨nbl rfl,L0,ag _,?_⟩
 ·unfold ae Tryz.f9;try unfold qe
  simp (maxSteps:=1000000) only[go_sem,g_,ia,dV,fG,cJ,ib,j7,fe,iN,ny,kX,jG,jH,nz,nA,jI,nB,jJ];all_goals exact cl
end Go.Sx
end
section
namespace Go.Sx
open Go.Proofs Go.Shelf Go.Sort
abbrev rW (f h:Int):Claim:= { right:=f,ee:=f,hour:=h,dd:=6,aoX:=0}
abbrev uR:List Claim:=[rW 0 2,rW 1 2,rW 0 3,rW 1 3]
abbrev F29:W2:= { kind:=0,hour:=0,index:=0,dd:=0,limit:=0}
abbrev D29:ah:=dV
abbrev E29:ah:=nB
def aal {l m:List Int}(O:m.Perm l)(E:m.Pairwise (· <= ·)):xW l=m:=by
 unfold xW;refine amx (le:=(· <= ·)) (λa b _ _=>Int.le_antisymm) ?_ E ((amr _ _).trans O.symm);have:=amm (le:=λx y:Int=>decide (x<=y)) (λa b c h1 h2=>by grind) (λa b=>by simp;omega) l;grind
theorem ar2:bX D29 [] 2 3 0=(uR,0):=(Rw (F:=[{ C1:=rW 0 2,reach:= -1},{ C1:=rW 1 2,reach:= -1},{ C1:=rW 0 3,reach:= -1},{ C1:=rW 1 3,reach:= -1}]) kr kr kr).trans kr
theorem aiB:bX E29 [] 2 3 0=(uR,0):=(Rw (F:=[{ C1:=rW 0 2,reach:= -1},{ C1:=rW 1 2,reach:= -1},{ C1:=rW 0 3,reach:= -1},{ C1:=rW 1 3,reach:= -1}]) kr kr kr).trans kr
def ev0:c5 D29 []=([],F29,0):=by
 have E:aS []=srt ar []:=by kernel_rfl
 rw[vK (m:=[]) kc (by decide) (by decide)]at E;have O:aQ D29 []=(srt aN [],true,0):=by kernel_rfl
 rw[vK (m:=[]) vF (by decide) (by decide)]at O;exact xn (B:=[]) kr kr E kr O kr
def ev1:c5 D29 [rW 0 2,rW 0 3]=([eK 1 0 6 false,eK 2 0 6 false,eK 2 0 6 true,eK 3 0 6 true],F29,0):=by
 have E:aS [rW 0 2,rW 0 3]=srt ar [eK 2 0 6 true,eK 3 0 6 true]:=by kernel_rfl
 rw[vK (m:=[eK 2 0 6 true,eK 3 0 6 true]) kc (by decide) (by decide)]at E;have O:aQ D29 [eK 2 0 6 true,eK 3 0 6 true]=(srt aN [eK 2 0 6 true,eK 3 0 6 true,eK 1 0 6 false,eK 2 0 6 false],true,0):=by kernel_rfl
 rw[vK (m:=[eK 1 0 6 false,eK 2 0 6 false,eK 2 0 6 true,eK 3 0 6 true]) vF (by decide) (by decide)]at O;exact xn (B:=[]) kr kr E kr O kr
def ev2:c5 D29 [rW 1 2,rW 1 3]=([eK 1 0 6 false,eK 2 0 6 false,eK 2 1 6 true,eK 3 1 6 true],F29,0):=by
 have E:aS [rW 1 2,rW 1 3]=srt ar [eK 2 1 6 true,eK 3 1 6 true]:=by kernel_rfl
 rw[vK (m:=[eK 2 1 6 true,eK 3 1 6 true]) kc (by decide) (by decide)]at E;have O:aQ D29 [eK 2 1 6 true,eK 3 1 6 true]=(srt aN [eK 2 1 6 true,eK 3 1 6 true,eK 1 0 6 false,eK 2 0 6 false],true,0):=by kernel_rfl
 rw[vK (m:=[eK 1 0 6 false,eK 2 0 6 false,eK 2 1 6 true,eK 3 1 6 true]) vF (by decide) (by decide)]at O;exact xn (B:=[]) kr kr E kr O kr
def abn:aS uR=[eK 2 0 6 true,eK 2 1 6 true,eK 3 0 6 true,eK 3 1 6 true]:=by
 have E:aS uR=srt ar [eK 2 0 6 true,eK 2 1 6 true,eK 3 0 6 true,eK 3 1 6 true]:=by kernel_rfl
 rwa[vK (m:=[eK 2 0 6 true,eK 2 1 6 true,eK 3 0 6 true,eK 3 1 6 true]) kc (by decide) (by decide)]at E
abbrev Pp:List Order:=[eK 1 0 12 false,eK 2 0 12 false,eK 2 0 6 true,eK 2 1 6 true,eK 3 0 6 true,eK 3 1 6 true]
theorem ev3:c5 D29 uR=([],({ kind:=1,hour:=1,index:=0,dd:=12,limit:=10}:W2),0):=by
 have E:aQ D29 [eK 2 0 6 true,eK 2 1 6 true,eK 3 0 6 true,eK 3 1 6 true]=(srt aN [eK 2 0 6 true,eK 2 1 6 true,eK 3 0 6 true,eK 3 1 6 true,eK 1 0 12 false,eK 2 0 12 false],true,0):=by kernel_rfl
 rw[vK (m:=Pp) vF (by decide) (by decide)]at E;exact xn (B:=[{ kind:=1,hour:=1,index:=0,dd:=12,limit:=10},{ kind:=1,hour:=2,index:=0,dd:=12,limit:=10}]) kr kr abn kr E kr
theorem ev4:c5 E29 uR=(Pp,F29,0):=by
 have E:aQ E29 [eK 2 0 6 true,eK 2 1 6 true,eK 3 0 6 true,eK 3 1 6 true]=(srt aN [eK 2 0 6 true,eK 2 1 6 true,eK 3 0 6 true,eK 3 1 6 true,eK 1 0 12 false,eK 2 0 12 false],true,0):=by kernel_rfl
 rw[vK (m:=Pp) vF (by decide) (by decide)]at E;exact xn (B:=[]) kr kr abn kr E kr
theorem Ns (d:ah):aB { d:=d,c:=uR} =[0,1]:=by
 have e:aB { d:=d,c:=uR} =cpI (xW [0,1,0,1]):=by kernel_rfl
 rw[e,aal (m:=[0,0,1,1]) (by decide) (by decide)];decide
theorem GF:aC D29 [] 2 3 0=({ d:=D29,c:=uR},0):=by
 grind [aC,bK,ar2,ev3,Ns]
theorem abo:aC E29 [] 2 3 0=({ d:=E29,c:=uR},0):=by
 grind [aC,bK,aiB,ev4,Ns]
abbrev IX:List A1:=[{ reach:=0,hour:=1,dd:=12,wanted:=12},{ reach:=0,hour:=2,dd:=12,wanted:=12}]
abbrev AL:x7:= { d:=D29,c:=uR}
def abp:eB AL=IX:=by kernel_rfl
def aam:eP AL:=of_decide_eq_true kr
abbrev f29:W2:= { kind:=1,hour:=1,index:=0,dd:=12,limit:=10}
def aiC:fT AL IX f29=[{ reach:=0,hour:=1,dd:=12,wanted:=12}]:=by
 have e:fT AL IX f29=srt bS [{ reach:=0,hour:=1,dd:=12,wanted:=12}]:=by kernel_rfl
 simp_all [srt]
def aan:gn AL IX f29:=by
 refine⟨(aai (by decide)).2,of_decide_eq_true kr,λs E=>?_⟩;have e:dC (dU AL IX f29) (aA IX) ([],[])=.inr ([((0,2),true)],[{ reach:=0,hour:=1,dd:=12,wanted:=12}]):=by kernel_rfl
 rw[e]at E;cases E;intro x O y hy _ _;grind
abbrev W29 (z:List Int):ByteArray×Int×Int×Int×List Reach×List apQ×List aqv×List ape×List aqq×List aqy×List Claim×List Int:=(D29.name,D29.hours,D29.Y2.cap,D29.Y2.start,D29.reaches,D29.u0,D29.ao1,D29.al,D29.aoT,D29.apn,uR,z)
def adV (z:List Int)(c:List Claim)(h:dp AL z= { d:=D29,c:=c})(h2:(c5 D29 c).2=(F29,0)):fj D29 [] 2 3 0 z ()=.inr ():=by
 grind [fj,dT,GF]
def aiD:fj D29 [] 2 3 0 [0,1] ()=.inl (W29 [0,1]):=by
 have h:dp AL [0,1]=AL:=by kernel_rfl
 grind [fj,dT,GF,ev3]
def Xm:dC (fj D29 [] 2 3 0) (fh (aB AL)) ()=.inl (W29 [0,1]):=by
 have e:fh [0,1]=[[],[0],[1],[0,1]]:=by kernel_rfl
 rw[Ns,e];simp only[dC,adV [] [] kr (by rw[ev0]),adV [0] [rW 0 2,rW 0 3] kr (by rw[ev1]),adV [1] [rW 1 2,rW 1 3] kr (by rw[ev2]),aiD]
abbrev r29:aoV:= { al:=[0,1],kind:=1,reach:=0,hour:=1,ao4:=[{ reach:=0,hour:=1,dd:=12,wanted:=12}]}
def Xn:gq D29 [] 2 3 0=(r29,true,0):=by
 unfold gq dT bK;simp only[GF,Xm,ev3];show(({ al:=[0,1],kind:=1,reach:=0,hour:=1,ao4:=fT AL (eB AL) f29}:aoV),true,(0:Int))=_;rw[abp,aiC]
def adW:gq E29 [] 2 3 0=(({ al:=[],kind:=0,reach:=0,hour:=0,ao4:=[]}:aoV),false,0):=by
 grind [gq,dT,abo,ev4]
def Tm:ba D29 [] 2 3 0 r29=(true,0):=by
 unfold ba;have:aj (c6 D29 [] 2 3 0 r29) r29.al.length 0 ()=.inr ():=by
  show aj (c6 D29 [] 2 3 0 r29) 2 0 ()=.inr ();simp only[aj,c6,GF,Ns];rfl
 have h2:aj (fK D29 [] 2 3 0 r29) 4 0 ()=.inl true:=by
  rfl
 rw[this,h2,GF];rfl
def Tn:ba D29 [] 2 3 0 g_=(false,0):=by
 unfold ba;have:aj (c6 D29 [] 2 3 0 g_) g_.al.length 0 ()=.inr ():=by
  rfl
 have h2:aj (fK D29 [] 2 3 0 g_) 4 0 ()=.inr ():=by
  rfl
 grind [GF]
def To:ba D29 [] 2 3 0 ia=(false,290):=by
 unfold ba;have:aj (c6 D29 [] 2 3 0 ia) ia.al.length 0 ()=.inl ():=by
  show aj (c6 D29 [] 2 3 0 ia) 1 0 ()=.inl ();simp only[aj,c6,GF,Ns];rfl
 grind [GF]
def Tp (r:aoV):(ba D29 [] 3 2 0 r).2=1:=by
 rfl
def Xo:qe=true:=by
 unfold qe jJ jG kX ny iN fe j7 ib jI nA nz jH cJ fG;simp_all [Xn,adW,Tm,Tp,To,Tn]
def aao:mI D29 [] 2 3 0:=by
 refine⟨Xa _ _ _ _ _,λ_=>⟨KL _ _,λ_=>⟨zl _ (by rw[GF];decide),?_⟩⟩⟩;simp only[GF];rw[Ns];refine⟨adU (by decide),Dq _ _ λz E _=>?_,λz E=>?_,λx O=>?_⟩;rw[Rv (by decide)]at E;have:=Tk E;unfold kO;simp only[GF];exact⟨(vp _ _ (by decide)).1,KL _ _,λ_=>by grind [d9]⟩;have:=Xm;grind [Ns];have:=Xm;rw[Ns]at this;rw[this]at O;cases O;refine⟨Gn _ _,aam,?_⟩;show gn AL (eB AL) (bK D29 uR).1;rw[abp];unfold bK;rw[ev3];exact aan
def Xp:mI E29 [] 2 3 0:=by
 refine⟨Xa _ _ _ _ _,λ_=>⟨KL _ _,λh=>?_⟩⟩;grind [dT,abo,ev4]
def Xq:pe:=by
 have E:fe=2:=by unfold fe ib cJ fG;rw[Xn];rfl
 have O:iN=1:=by unfold iN j7 cJ fG;rw[Xn];rfl
 unfold pe;rw[E,O];refine⟨aao,tR _ _ _ _ _ _,tR _ _ _ _ _ _,tR _ _ _ _ _ _,tR _ _ _ _ _ _,⟨by decide,by decide⟩,Xp,λ_ _=>⟨λ_=>by decide,λ_=>by decide,λ_=>by decide⟩⟩
end Go.Sx
end
section
namespace Go.Sx
open Go.Proofs
open IntKind (i64 u8)
def Nt (c:List Claim)(E:Nat)(hc:c.length<=4096)(s:List Int)(X:s.length<=E*4096)(Y:E<256):okI (gB c E) (lw c E) c.length 0 s/\∀ r,aj (gB c E) c.length 0 s=.inr r->r.length<=(E+1)*4096:=by
 have O:∀ j (t:List Int),t.length<=E*4096+j->∀ t',gB c E j t=.inr t'->t'.length<=E*4096+(j+1):=λj t U t' e=>by
  unfold gB at e;cases q:(((c.getD j (default:Claim)).right==(E:Int))&&(!(uQ t (E:Int))))with
  |true=>rw[q]at e;cases e;rw[alA];simp only[aly,alJ];omega|false=>rw[q]at e;cases e;omega
 constructor
 refine kh (λj t=>t.length<=E*4096+j) _ _ _ (by omega) λj t _ V U=>⟨λ_ _=>?_,O j t U⟩;rw[alA];simp only[aly,alJ];unfold d9;omega;intro r W;have:=wL (λj t=>t.length<=E*4096+j) _ _ _ (by omega) (λj t _ V U=>O j t U) r W;omega
def ash (d:ah)(c:List Claim)(hc:c.length<=4096)(hd:d.al.length<=256):pd d c:=by
 refine kh (λj (t:List Int) =>t.length<=j*4096) _ _ _ (by simp) λj t _ O E=>⟨λ_=>(Nt c j hc t E (by omega)).1,λt' e=>?_⟩;unfold nK at e;cases q:aj (gB c j) c.length 0 t with
 |inl x=>exact x.elim
 |inr r=>rw[q]at e;cases e;exact(Nt c j hc t E (by omega)).2 _ q
def aap (d:ah)(l:List bl)(fr to k:Int):tT d l fr to k:=by
 intro _;refine⟨(aiA d l fr to k).1,λh=>?_⟩;have e:nk d l fr to k=bX d l fr to k:=(aiA d l fr to k).2.trans (F4 d l fr to k).2.symm;rw[e]at h |-;refine ash _ _ (Gx d l fr to k) ?_;have h:(lim (vE d l fr to k) (ofL d l k fr to)).2=0:=by rw[<-(F4 d l fr to k).2];simpa using h
 have E:vE d l fr to k=0:=by
  unfold lim at h;split at h
  assumption
  exact h
 have O:ap d=0:=by
  have:=(xN E).1;unfold aP at this;cases q:(ap d !=0)with
  |true=>rw[q]at this;exact this|false=>simpa using q
 have:=((qQ d).1 O).1;omega
variable {d:ah}
def adX{T:apV}(O:ap d=0)(E:ap { d with Y2:=T,reaches:=d.reaches} =0)(U:T.start<=d.Y2.start):Lsr d T d.reaches:=
 ⟨O,E,rfl,λi=>⟨_,_,rfl,al5 _,al5 _⟩,U⟩
theorem Rx{n:Nat}{c b:Int}(E:ap d=0)(O:ap { d with Y2:=d.Y2,reaches:=d.reaches.set n { d.reaches.getD n default with cap:=c,aph:=b}} =0)(U:n<d.reaches.length)(hc:c<=(d.reaches.getD n default).cap)(V:b<=(d.reaches.getD n default).aph):Lsr d d.Y2 (d.reaches.set n { d.reaches.getD n default with cap:=c,aph:=b}):=by
 refine⟨E,O,by simp,λi=>?_,al5 _⟩;by_cases hi:i=n
 subst hi;refine⟨c,b,?_,hc,V⟩;simp[amZ,U];refine⟨(d.reaches.getD i default).cap,(d.reaches.getD i default).aph,?_,al5 _,al5 _⟩;simp[amZ,aox (Ne.symm hi)]
theorem abq {a:Int}(h:0<=a/\a<=255){n:Nat}(U:0<n):∃ k:Nat,Int.tmod (i64.wrap (u8.wrap (Int.tdiv a 3))) (n:Int)=(k:Int)/\k<n:=by
 have E:Int.tdiv a 3=a / 3:=Int.tdiv_eq_ediv_of_nonneg h.1;have O:u8.wrap (a / 3)=a / 3:=by
  simp only[IntKind.wrap,IntKind.bits,IntKind.signed];simp;omega
 rw[E,O,az (by omega) (by omega),amg (by omega)];have h1:=anc (a / 3) (show(n:Int)≠0 by omega);have h2:=amY (a / 3) (show(0:Int) <n by omega);exact⟨(a / 3 % (n:Int)).toNat,by omega,by omega⟩
theorem Ry {a:Int}(h:0<=a/\a<=255):Int.tmod a 3=0\/Int.tmod a 3=1\/Int.tmod a 3=2:=by
 rw[amg h.1];omega
theorem bt {c X:Bool}(h:c=false->X=true):(bif c then true else X)=true:=by
 cases c with
 |true=>rfl|false=>exact h rfl
variable {l:List bl}{to k:Int}{r:aoV}
theorem IY{fr:Int}(g:(((ba d l fr to k r).2 !=0) ||(!(ba d l fr to k r).1))=false):ba d l fr to k r=(true,0)/\apd d/\ap d=0:=by
 have hd:ba d l fr to k r=(true,0):=by
  simp only[al1,bne_eq_false_iff_eq,amN]at g;exact Prod.ext g.2 g.1
 have E:Opn d l fr to k:=(KQ d l fr to k).1 (by
  unfold ba at hd;cases q:(aC d l fr to k).2 !=0 with
  |true=>rw[q]at hd;simp at hd
  |false=>simpa using q)
 exact⟨hd,Gm E.ask.chk,((qc d _).1 E.ask.chk).1⟩
theorem KY{x:ah}{fr:Int}(h:(ap x !=0)=false->ba x l fr to k r=(true,0)):(bif(ap x !=0)then true else(((ba x l fr to k r).2==0)&&(ba x l fr to k r).1))=true:=
 bt λg=>by rw[h g];rfl
def j8 (a0:ah)(a1:List bl)(a2:Int)(a3:Int)(a4:Int)(a5:aoV)(a6:Int)(a7:Int):Bool:=letI q5:=([])++a0.reaches;letI q4:=Int.toNat (Int.tmod (i64.wrap (u8.wrap (Int.tdiv a6 3))) (q5.length:Int));letI q0:=q5.getD q4 default;letI q6:=i64.wrap a7;letI q1:=({ name:=a0.name,hours:=a0.hours,Y2:=a0.Y2,reaches:=(q5.set q4 ({ name:=q0.name,up:=q0.up,delay:=q0.delay,cap:=(i64.wrap (q0.cap - q6)),aph:=q0.aph,aoU:=q0.aoU,apu:=q0.apu,apc:=q0.apc}:Reach)),u0:=a0.u0,ao1:=a0.ao1,al:=a0.al,aoT:=a0.aoT,apn:=a0.apn}:ah);letI q2:=({ name:=a0.name,hours:=a0.hours,Y2:=a0.Y2,reaches:=(q5.set q4 ({ name:=q0.name,up:=q0.up,delay:=q0.delay,cap:=q0.cap,aph:=(i64.wrap (q0.aph - q6)),aoU:=q0.aoU,apu:=q0.apu,apc:=q0.apc}:Reach)),u0:=a0.u0,ao1:=a0.ao1,al:=a0.al,aoT:=a0.aoT,apn:=a0.apn}:ah);letI q3:=({ name:=a0.name,hours:=a0.hours,Y2:=({ cap:=a0.Y2.cap,start:=(i64.wrap (a0.Y2.start - q6))}:apV),reaches:=q5,u0:=a0.u0,ao1:=a0.ao1,al:=a0.al,aoT:=a0.aoT,apn:=a0.apn}:ah);letI q7:=ba a0 a1 a2 a3 a4 a5;letI q8:=ba q3 a1 a2 a3 a4 a5;letI q9:=ba q1 a1 a2 a3 a4 a5;letI qa:=ba q2 a1 a2 a3 a4 a5;letI qb:=Int.tmod a6 3;(bif(!qe)then false else(bif(((!(xQ a0 a1 a2 a3 a4)) ||(!(xP a5))) ||((a0.reaches.length:Int) ==0))then true else(bif((q7.2 !=0) ||(!q7.1))then true else(bif(decide (qb=0))then(bif((ap q3) !=0)then true else((q8.2==0)&&q8.1))else(bif(decide (qb=1))then(bif((ap q1) !=0)then true else((q9.2==0)&&q9.1))else(bif(decide (qb=2))then(bif((ap q2) !=0)then true else((qa.2==0)&&qa.1))else default))))))
def i6 (a0:ah)(a1:List bl)(a2:Int)(a3:Int)(a4:Int)(a5:aoV)(a6:Int)(a7:Int):Prop:=letI q5:=([])++a0.reaches;letI q6:=Int.tmod a6 3;letI q7:=(q5.length:Int);letI q1:=Int.tmod (i64.wrap (u8.wrap (Int.tdiv a6 3))) q7;letI q8:=i64.wrap a7;letI q4:=({ name:=a0.name,hours:=a0.hours,Y2:=({ cap:=a0.Y2.cap,start:=(i64.wrap (a0.Y2.start - q8))}:apV),reaches:=q5,u0:=a0.u0,ao1:=a0.ao1,al:=a0.al,aoT:=a0.aoT,apn:=a0.apn}:ah);letI q9:=ba a0 a1 a2 a3 a4 a5;letI qa:=Int.toNat q1;letI q0:=q5.getD qa default;letI q2:=({ name:=a0.name,hours:=a0.hours,Y2:=a0.Y2,reaches:=(q5.set qa ({ name:=q0.name,up:=q0.up,delay:=q0.delay,cap:=(i64.wrap (q0.cap - q8)),aph:=q0.aph,aoU:=q0.aoU,apu:=q0.apu,apc:=q0.apc}:Reach)),u0:=a0.u0,ao1:=a0.ao1,al:=a0.al,aoT:=a0.aoT,apn:=a0.apn}:ah);letI q3:=({ name:=a0.name,hours:=a0.hours,Y2:=a0.Y2,reaches:=(q5.set qa ({ name:=q0.name,up:=q0.up,delay:=q0.delay,cap:=q0.cap,aph:=(i64.wrap (q0.aph - q8)),aoU:=q0.aoU,apu:=q0.apu,apc:=q0.apc}:Reach)),u0:=a0.u0,ao1:=a0.ao1,al:=a0.al,aoT:=a0.aoT,apn:=a0.apn}:ah);((pe)/\((!qe)=false->((tT a0 a1 a2 a3 a4)/\((((!(xQ a0 a1 a2 a3 a4)) ||(!(xP a5))) ||((a0.reaches.length:Int) ==0))=false->((e_ a0 a1 a2 a3 a4 a5)/\(((q9.2 !=0) ||(!q9.1))=false->((q5.length*104<=d9)/\(q5.length<=aK->(q5.length<=aK->(q7≠0/\((0<=q1/\q1<q7)/\((0<=q1/\q1<q7)/\(((decide (q6=0))=true->(((ap q4) !=0)=false->(e_ q4 a1 a2 a3 a4 a5)))/\((decide (q6=0))=false->(((decide (q6=1))=true->(((ap q2) !=0)=false->(e_ q2 a1 a2 a3 a4 a5)))/\((decide (q6=1))=false->(((decide (q6=2))=true->(((ap q3) !=0)=false->(e_ q3 a1 a2 a3 a4 a5)))/\((decide (q6=2))=false->False))))))))))))))))))
@[go_sem] def nT:List SV->Option Con:=(pD .bh λa0=>(pR .x6 λa1=>(pI λa2=>(pI λa3=>(pI λa4=>(pD .refusal λa5=>(pV λa6=>(pV λa7=>(pE (.det (i6 a0 a1 a2 a3 a4 a5 a6 a7) (.v (.bool (j8 a0 a1 a2 a3 a4 a5 a6 a7)))))))))))))
theorem yi:B1 Tryz.prog 7 nT:=by
 have hG:=mG (cp HM (cn [.st .bh,.sl .x6,.o,.o,.o] KW (cn [.st .refusal] KU (cn [.st .bh,.sl .x6,.o,.o,.o,.st .refusal] vY (cn [.st .bh] kF P0))))) P0;refine fN hG Tryz.f7 [.o] (av λa0=>(bN λa1=>(ay λa2=>(ay λa3=>(ay λa4=>(av λa5=>(VN λX=>(VN λa7=>(am (λE=>?_))))))))));dsimp only[an]at E;unfold i6 at E;refine⟨nbl rfl,L0,ag _,?_⟩
 ·unfold ae Tryz.f7;try unfold j8
  by_cases W:(Int.tmod X 3)=0
  ·try simp only[W,decide_true,decide_false,Int.reduceEq,alB,an2,forall_const,true_imp_iff,false_imp_iff,and_true,true_and,reduceCtorEq]at E
   simp only[alC]at E;have O:=λa b c e f=>((((E.2 a).2 b).2 c).2 e e).2.2.2 f;simp only[go_sem,W,Int.reduceEq,Int.reduceBEq,decide_false];all_goals (repeat' (first|with_reducible refine And.intro ?_ ?_|with_reducible intro _))
   all_goals first|exact O (by first|with_reducible assumption|grind) (by first|with_reducible assumption|grind) (by first|with_reducible assumption|grind) (by first|with_reducible assumption|grind) (by first|with_reducible assumption|grind) |exact cl
  ·have Y:=decide_eq_false W;by_cases V:(Int.tmod X 3)=1
   ·try simp only[V,decide_true,decide_false,Int.reduceEq,alB,an2,forall_const,true_imp_iff,false_imp_iff,and_true,true_and,reduceCtorEq]at E
    simp only[alC]at E;have O:=λa b c e f=>((((E.2 a).2 b).2 c).2 e e).2.2.2 f;simp only[go_sem,V,Int.reduceEq,Int.reduceBEq,decide_false];all_goals (repeat' (first|with_reducible refine And.intro ?_ ?_|with_reducible intro _))
    all_goals first|exact O (by first|with_reducible assumption|grind) (by first|with_reducible assumption|grind) (by first|with_reducible assumption|grind) (by first|with_reducible assumption|grind) (by first|with_reducible assumption|grind) |exact cl
   ·have hn1:=decide_eq_false V;by_cases U:(Int.tmod X 3)=2
    ·try simp only[U,decide_true,decide_false,Int.reduceEq,alB,an2,forall_const,true_imp_iff,false_imp_iff,and_true,true_and,reduceCtorEq]at E
     simp only[alC]at E;have O:=λa b c e f=>((((E.2 a).2 b).2 c).2 e e).2.2.2 f;simp only[go_sem,U,Int.reduceEq,Int.reduceBEq,decide_false];all_goals (repeat' (first|with_reducible refine And.intro ?_ ?_|with_reducible intro _))
     all_goals first|exact O (by first|with_reducible assumption|grind) (by first|with_reducible assumption|grind) (by first|with_reducible assumption|grind) (by first|with_reducible assumption|grind) (by first|with_reducible assumption|grind) |exact cl
    ·have hn2:=decide_eq_false U;simp only[go_sem,Y,hn1,hn2];all_goals (repeat' (first|with_reducible refine And.intro ?_ ?_|with_reducible intro _))
     all_goals first|exact cl|(exfalso;simp_all;done)
theorem Xr (a0:ah)(a1:List bl)(Y a3 a4:Int)(a5:aoV)(W U:Int)(_: -9223372036854775808<=Y/\Y<=9223372036854775807)(_: -9223372036854775808<=a3/\a3<=9223372036854775807)(_: -9223372036854775808<=a4/\a4<=9223372036854775807)(h6:0<=W/\W<=255)(h7:0<=U/\U<=255):j8 a0 a1 Y a3 a4 a5 W U=true:=by
 unfold j8;rw[Xo];simp only[alN,cond_false,alC];refine bt λ_=>bt λg=>?_;obtain⟨hd,V,X⟩:=IY g;obtain⟨k,hk,E⟩:=abq h6 V.one;have hx:=(OP _ _).1 (V.reach k E);have hs:=V.start;have hc:=V.cap;have hs0:=V.arc;have e7:i64.wrap U=U:=az (by omega) (by omega);simp only[hk,alv,e7];rcases Ry h6 with q|q|q;rw[q];refine KY λO=>B7 (adX X (by simpa using O) ?_) hd;simp only;rw[az (by omega) (by omega)];omega;rw[q];refine KY λO=>B7 (Rx X (by simpa using O) E ?_ (al5 _)) hd;rw[az (by omega) (by omega)];omega;rw[q];refine KY λO=>B7 (Rx X (by simpa using O) E (al5 _) ?_) hd;rw[az (by omega) (by omega)];omega
theorem Xs (a0:ah)(a1:List bl)(V W Y:Int)(a5:aoV)(E U:Int)(_: -9223372036854775808<=V/\V<=9223372036854775807)(_: -9223372036854775808<=W/\W<=9223372036854775807)(_: -9223372036854775808<=Y/\Y<=9223372036854775807)(h6:0<=E/\E<=255)(h7:0<=U/\U<=255):i6 a0 a1 V W Y a5 E U:=by
 unfold i6;refine⟨Xq,λ_=>⟨aap _ _ _ _ _,λ_=>⟨tR _ _ _ _ _ _,λg=>?_⟩⟩⟩;obtain⟨hd,hR,h0⟩:=IY g;obtain⟨k,hk,hkn⟩:=abq h6 hR.one;have hl:=hR.reaches;simp only[alC,hk];refine⟨by unfold d9;omega,λ_ _=>⟨by omega,by omega,by omega,λ_ _=>tR _ _ _ _ _ _,λq0=>⟨λ_ _=>tR _ _ _ _ _ _,λX=>⟨λ_ _=>tR _ _ _ _ _ _,λO=>?_⟩⟩⟩⟩;have q0:=of_decide_eq_false q0;have X:=of_decide_eq_false X;have O:=of_decide_eq_false O;rcases Ry h6 with q|q|q;exact q0 q;exact X q;exact O q
end Go.Sx
end
section
namespace Go.Sx
open Go.Deep Go.RowKit
section
variable {F:Nat->Prop}{own:Own}{w:World}
def RC (F:Nat->Prop)(own:Own)(w:World)(ks:List Kd)(cs:List Value):Prop:=
 ∃ l:List SV,ub ks l=true/\l.length=cs.length/\∀ (j:Nat) (s:SV) (v:Value),l[j]? =some s->cs[j]? =some v->Rel F own w s v
theorem Nu:∀ {a b:List Kd} {l m:List SV},ub a l=true->ub b m=true->ub (a++b) (l++m)=true
 | [],b,l,m,h1,h2=>by grind [ul]
 |k::a,b,l,m,h1,h2=>by
  obtain⟨x,r,rfl,E,O⟩:=pu h1;simp only[alU,ub,E,Nu O h2,Bool.and_self]
theorem RC.nil:RC F own w [] []:=⟨[],rfl,rfl,λj s v h=>by cases h⟩
theorem RC.app {a b:List Kd}{c d:List Value}(h1:RC F own w a c)(h2:RC F own w b d):RC F own w (a++b) (c++d):=by
 obtain⟨l,V,O,W⟩:=h1;obtain⟨m,E,U,Y⟩:=h2;refine⟨l++m,Nu V E,by simp[O,U],λj s v X hv=>?_⟩;grind
theorem RC.one {k:Kd}{s:SV}{v:Value}(h1:fit k s=true)(h2:Rel F own w s v):RC F own w [k] [v]:=
 ⟨[s],by simp[ub,h1],rfl,λj s' O E U=>by
  grind⟩
end
def adY:Kd->Kd->Bool
 | .s,.s=>true| .b,.b=>true| .n a,.n b=>decide (a=b)| .r a,.r b=>decide (a=b)| .m a c,.m b d=>decide (a=b)&&decide (c=d)|_,_=>false
theorem aaq:∀ {a b:Kd},adY a b=true->a=b:=by
 intro a b h;cases a <;>cases b <;>simp_all [adY]
def Xt:List Kd->List Kd->Bool
 | [],[] =>true|a::l,b::m=>adY a b&&Xt l m|_,_=>false
theorem Rz:∀ {a b:List Kd},Xt a b=true->a=b
 | [],[],_=>rfl
 |a::l,b::m,h=>by
  simp only[Xt,alt]at h;rw[aaq h.1,Rz h.2]
def GG (P:Program)(g:TypeId->Option (List Kd)):List Field->Nat->Nat->Option (List Kd)
 | [],off,tot=>bif Nat.beq off tot then some []else none
 |f::r,off,tot=>match g f.type with
  |some a=>bif Nat.beq f.offset off&&Nat.beq a.length (P.cellsOf f.type)then(GG P g r (off+a.length) tot).map (a++ ·)else none|none=>none
def Pq (a:List Kd):Nat->List Kd
 |0=>[]|n+1=>a++Pq a n
def GH (P:Program):Nat->TypeId->Option (List Kd)
 |0,_=>none
 |n+1,t=>match P.underlying t with
  |some .bool=>some [.b]|some (.int k) =>some [.n k]|some .string=>some [.s]
  |some (.slice e) =>match K6 P e,GH P n e with
   |some k,some ks=>bif Xt ks (dN k)&&Nat.beq (P.cellsOf e) (aa k)&&Nat.ble 1 (aa k)then some [.r k]else none|_,_=>none
  |some (.struct fs) =>GG P (GH P n) fs.toList 0 (P.cellsOf t)
  |some (.array m e) =>match GH P n e with
   |some a=>bif Nat.beq a.length (P.cellsOf e)&&Nat.beq (P.cellsOf t) (m*a.length)then some (Pq a m)else none|none=>none
  |_=>none
section
variable {H:Type}{enc:TypeId×Value->H}{P:Program}{F:Nat->Prop}{own:Own}{w:World}{base:Nat}{spare:Nat->Bool}{held:Bool}{S:DataW H->Prop}
theorem RA {g:TypeId->Option (List Kd)}(Y:∀ t ks,g t=some ks->∀ (E:Nat) (cs:List Value) (x:DataW H×List MemPlace),DataW.trod enc P w base spare held E t cs=some x->S x.1->RC F own w ks cs)
  (E:Nat) (cs:List Value):∀ (fs:List Field) (off:Nat) (ks:List Kd),GG P g fs off cs.length=some ks->(∀ f∈fs,∃ x,DataW.trod enc P w base spare held E f.type ((cs.drop f.offset).take (P.cellsOf f.type))=some x/\S x.1)->RC F own w ks (cs.drop off)
 | [],off,ks,h,_=>by
  unfold GG at h;cases O:Nat.beq off cs.length with
  |false=>grind
  |true=>
   rw[O]at h;have:off=cs.length:=alu O;subst this;cases h;rw[aoe];exact RC.nil
 |f::r,off,ks,h,X=>by
  unfold GG at h;cases ha:g f.type with
  |none=>grind
  |some a=>
   rw[ha]at h;dsimp only at h;cases O:Nat.beq f.offset off&&Nat.beq a.length (P.cellsOf f.type)with
   |false=>grind
   |true=>
    rw[O]at h;simp only[cond_true,amI]at h;obtain⟨U,h2,rfl⟩:=h;rw[alt]at O;have e1:f.offset=off:=alu O.1;have e2:a.length=P.cellsOf f.type:=alu O.2;obtain⟨x,W,V⟩:=X f (by simp);have h3:=Y _ _ ha _ _ _ W V;have h4:=RA Y E cs r (off+a.length) U h2 λf hf=>X f (by simp[hf]);have:=h3.app h4;grind [List.drop_drop,List.take_append_drop]
theorem RB {e:TypeId}{a:List Kd}(V:∀ (E:Nat) (cs:List Value) (x:DataW H×List MemPlace),DataW.trod enc P w base spare held E e cs=some x->S x.1->RC F own w a cs)
  (E:Nat):∀ (m:Nat) (cs:List Value),cs.length=m*a.length->(∀ i,i<m->∃ x,DataW.trod enc P w base spare held E e ((cs.drop (i*a.length)).take a.length)=some x/\S x.1)->RC F own w (Pq a m) cs
 |0,cs,h,_=>by
  have:cs=[]:=by simpa using h
  subst this;exact RC.nil
 |m+1,cs,h,hx=>by
  obtain⟨x,O,U⟩:=hx 0 (by omega);rw[Nat.zero_mul,List.drop_zero]at O;have X:=V _ _ _ O U;have W:=RB V E m (cs.drop a.length) (by grind) λi hi=>by
   grind [List.drop_drop]
  have:=X.app W
  rwa[amk]at this
structure Small (S:DataW H->Prop):Prop where
 agg:∀ l,S (.agg l)->∀ d∈l,S d
 slice:∀ l m,S (.slice l m)->l.length<=aK/\∀ d∈l,S d
theorem qf (hS:Small S)(O:∀ b,¬df F own b):∀ (n:Nat) (t:TypeId) (ks:List Kd),GH P n t=some ks->∀ (fuel:Nat) (cs:List Value) (x:DataW H×List MemPlace),DataW.trod enc P w base spare held fuel t cs=some x->S x.1->RC F own w ks cs
 |0,_,_,h,_,_,_,_,_=>by cases h
 |n+1,t,ks,h,fuel,cs,x,hx,hs=>by
  unfold GH at h;split at h
  rename_i V;cases h;obtain⟨b,rfl,rfl⟩:=DataW.trod_bool V hx;exact RC.one (s:=.v (.bool b)) rfl (.v _);rename_i k V;cases h;obtain⟨m,rfl,rfl,_⟩:=DataW.trod_int V hx;exact RC.one (s:=.v (.int k m)) (by simp[fit]) (.v _);rename_i V;cases h;obtain⟨b,rfl,rfl,_⟩:=DataW.trod_string V hx;exact RC.one (s:=.v (.string b)) rfl (.v _)
  ·rename_i e V;split at h
   ·rename_i k ks2 hk hks;cases U:Xt ks2 (dN k)&&Nat.beq (P.cellsOf e) (aa k)&&Nat.ble 1 (aa k)with
    |false=>rw[U]at h;cases h
    |true=>
     rw[U]at h;cases h;simp only[alt]at U;have e1:=Rz U.1.1;have e2:P.cellsOf e=aa k:=alu U.1.2;have e3:1<=aa k:=nbl U.2;subst e1;rcases open_slice V hx with⟨rfl,rfl⟩ | ⟨a,len,cap,m,f2,D,Pl,rfl,hb1,hl,hm,hmm,rfl,hel⟩;exact RC.one (s:=.rs k []) (by simp[fit]) .rs0
     ·have hlm:len<=m:=by subst hmm;split <;>omega
      obtain⟨hs1,hs2⟩:=hS.slice _ _ hs;simp only[amo,am1]at hs1;have helt:∀ i,i<len->∃ E,E.length=aa k/\(∀ j v,E[j]? =some v->w.cell? ((a.add (i*aa k)).add j)=some v)/\RC F own w (dN k) E:=λi hi=>by
       obtain⟨E,h1,h2⟩:=hel i (by omega);have h3:=qf hS O n e (dN k) hks f2 E _ h2 (hs2 _ (am4 (amX.2 hi)));unfold World.cells? at h1;split at h1
       refine⟨E,by rw[mapM_some_length h1,am1,e2],λj v W=>?_,h3⟩;have hlt:j<P.cellsOf e:=by
        have:=(alz.1 W).1
        rwa[mapM_some_length h1,am1]at this
       have:=mapM_some_get h1 j j (by simp[hlt]);rw[e2]at this;rw[this,W];cases h1
      by_cases h0:len=0
      subst h0;exact RC.one (s:=.rs k []) (by simp[fit]) .rs0
      ·have Y:a.spot=none:=by
        obtain⟨E,h1,h2,_⟩:=helt 0 (by omega);have:=h2 0 (E[0]'(by omega)) (by rw[alE]);rw[Nat.zero_mul]at this;simp only[Addr.add,if_true]at this;unfold World.cell? at this;split at this
        cases Y:a.spot with
        |none=>rfl|some q=>rw[Y]at this;simp at this
        cases this
       obtain⟨ab,ao,asp⟩:=a;dsimp only at Y;subst Y
       haveI:Inhabited k.T:=⟨eC k⟩
       obtain⟨X,hX⟩:=choose_lt (p:=λi (x:k.T) =>∀ (j:Nat) (s:SV),(cellsOf k x)[j]? =some s->∃ v,w.cell? ⟨ab,ao+i*aa k+j,none⟩=some v/\Rel F own w s v) (n:=len) λi hi=>by
        obtain⟨E,h1,h2,l,h3,h4,h5⟩:=helt i hi;refine⟨mkE k l,λj s W=>?_⟩;rw[qE (k:=k) (l:=l) (x:=mkE k l) (by unfold vO;rw[h3];rfl)]at W;have hlt:j<E.length:=by
         have:=(alz.1 W).1;omega
        refine⟨E[j],?_,h5 j s _ W (alE hlt)⟩;have:=h2 j E[j] (alE hlt);have hadd:∀ p q,((⟨ab,ao,none⟩:Addr).add p).add q=⟨ab,ao+p+q,none⟩:=λp q=>by
         unfold Addr.add;by_cases hp:p=0 <;>by_cases hq:q=0 <;>simp[hp,hq]
        rwa[hadd]at this
       have hL:((List.range len).map X).length=len:=by simp
       refine RC.one (s:=.rs k ((List.range len).map X)) (by simp[fit]) ?_;have hget:∀ (i:Nat) (x:k.T),((List.range len).map X)[i]? =some x->i<len/\x=X i:=λi x hi=>by
        obtain⟨h1,h2⟩:=alz.1 hi;rw[hL]at h1;simp only[List.getElem_map,List.getElem_range]at h2;subst h2;exact⟨h1,rfl⟩
       have:=Rel.rs (F:=F) (own:=own) (w:=w) (k:=k) (l:=(List.range len).map X) (b:=ab) (o:=ao) (cap:=cap) (λi j=>(w.cell? ⟨ab,ao+i*aa k+j,none⟩).getD undef) (by rw[hL];exact hl) (by rw[hL];exact hs1)
        (λi x hi j s W=>by
         obtain⟨h1,rfl⟩:=hget i x hi;obtain⟨v,h2,_⟩:=hX i h1 j s W;exact⟨O _,by rw[h2];rfl⟩)
        (λi x hi j s W=>by
         obtain⟨h1,rfl⟩:=hget i x hi;obtain⟨v,h2,h3⟩:=hX i h1 j s W;rw[h2];exact h3)
       rwa[hL]at this
   cases h
  rename_i fs V;obtain⟨xs,m,rfl,rfl,hl,hlen,hf⟩:=DataW.trod_struct V hx;rw[<-hl]at h;have:=RA (qf hS O n) m cs fs.toList 0 ks h λf hfm=>by
   obtain⟨i,hi,rfl⟩:=al8 hfm;have hi':i<fs.size:=by simpa using hi
   have h1:=hf i fs[i] (by simp[hi']);rw[alE (by omega)]at h1;refine⟨_,by simpa using h1,hS.agg _ hs _ (am4 (amM _))⟩
  simpa using this;rename_i m e V;split at h
  rename_i a ha;cases U:Nat.beq a.length (P.cellsOf e)&&Nat.beq (P.cellsOf t) (m*a.length)with
  |false=>rw[U]at h;cases h
  |true=>
   rw[U]at h;cases h;rw[alt]at U;have e1:a.length=P.cellsOf e:=alu U.1;have e2:P.cellsOf t=m*a.length:=alu U.2;obtain⟨xs,f2,rfl,rfl,hl,hlen,hf⟩:=DataW.trod_array V hx;refine RB (qf hS O n e a ha) f2 m cs (by rw[hl,e2]) λi hi=>?_;have h1:=hf i hi;rw[alE (by omega),<-e1]at h1;exact⟨_,h1,hS.agg _ hs _ (am4 (amM _))⟩
  cases h;cases h
end
end Go.Sx
end
section
namespace Go.Sx
open Go.Proofs
section
variable {F:Nat->Prop}{own:Own}{w:World}
theorem RD {k:Tag}{cs:Array Value}(h:RC F own w (dN k) cs.toList):∃ x:k.T,Rel F own w (.agg (cellsOf k x)) (.agg cs):=by
 obtain⟨l,V,E,U⟩:=h;refine⟨mkE k l,?_⟩;rw[qE (k:=k) (l:=l) (x:=mkE k l) (by unfold vO;rw[V];rfl)];refine .agg (by simpa using E.symm) λj s O=>?_;have hlt:j<cs.size:=by
  have:=(alz.1 O).1;simpa[E]using this
 exact U j s _ O (by simp[Array.getD,hlt])
theorem adZ {k:Tag}{v:Value}(h:RC F own w [.r k] [v]):∃ l:List k.T,Rel F own w (.rs k l) v:=by
 obtain⟨l,U,X,O⟩:=h;obtain⟨x,r,rfl,E,W⟩:=pu U;have V:=O 0 x v rfl rfl;cases x with
 |rs k' l'=>
  have:k=k':=by
   simp only[fit]at E;exact uj E
  subst this;exact⟨l',V⟩
 |_=>simp[fit]at E
end
end Go.Sx
end
section
namespace Go.Sx
open Go.ChangeShapes Go.RowKit Go.WideShapes
section
variable {H:Type}{enc:TypeId×Value->H}{P:Program}
def aar (P:Program):List TypeId->Bool
 | [] =>true|t::r=>P.readableRec t&&Nat.blt t P.types.size&&aar P r
theorem IZ (V:laidOutB P=true){W Y:World}(X:Below W.heap.size W Y):∀ {ts:List TypeId} {vs:List Value} {ds:List (DataW H)} {U:List MemPlace},aar P ts=true->
  DataW.TrodAll enc P W 0 (λ_=>true) true ts vs ds U->(∀ x∈U,x.block<W.heap.size)->DataW.TrodAll enc P Y 0 (λb=>decide (b<W.heap.size)) true ts vs ds U
 | [],vs,ds,U,_,h,_=>by
  obtain⟨rfl,rfl,rfl⟩:=trodAll_nil h;exact trodAll_mk0
 |t::ts,vs,ds,U,O,h,hlt=>by
  unfold aar at O;rw[alt,alt]at O;obtain⟨v,vs',d,ds',p,q,rfl,rfl,rfl,h1,h2⟩:=trodAll_cons h;refine trodAll_cons_mk (WideElems.Trod_stays V O.1.1 (by simpa[Nat.blt_eq]using O.1.2) h1 (λx E=>X.same (hlt x (anN _ E))) (λx E=>by simpa using hlt x (anN _ E))) ?_;exact IZ V X O.2 h2 λx E=>hlt x (ang _ E)
theorem Xu (hl:laidOutB P=true){f:Func}{s:ChangeSpec}{W W':World}{args:Array Value}{ds U:List (DataW H)}{E:List MemPlace}{t:TypeId}
  (hk:aar P f.params.toList=true) (X:DataW.Whole enc P f.params.toList s.vars false W args.toList ds U E)
  (hr:f.resultTypes= #[t]) (ht:P.underlying t=some .bool) (hv:s.vars=[]) (h1:(s.fn H (ds++U)).results=[.lit (.bool true)]) (h2:(s.fn H (ds++U)).args=ds) (h3:(s.fn H (ds++U)).vars=[])
  (Y:Below W.heap.size W W'):s.post enc P f false true false false W args (.bool true) W':=by
 have hlt:=X.lt;have V:=X;obtain⟨p,q,hA,hV,rfl,_,_⟩:=X;rw[hv]at hV;obtain⟨rfl,rfl⟩:=trodVars_none hV;refine⟨ds,[],p++[],[],p,[],V,?_,?_,?_,?_,λh=>by cases h⟩;rw[h1,hr];exact trodAll_cons_mk (shut_bool ht _) trodAll_mk0;rw[h2];exact IZ hl Y hk hA λx O=>hlt x (by simpa using O);rw[h3,hv];rfl;exact World.keptBut_mono (λx O=>⟨O,.inr (.inl (by simpa using O))⟩) (Y.frame (· ∈p++[]))
end
end Go.Sx
end
section
namespace Go.Proofs.YtaikmgjfkejlkaaGreat.bulks
variable {H:Type}
theorem one_le(d:DataW H):1<=Rows.uptoBulk d:=by
 cases d with
 |lit l=>cases l <;>simp[Rows.uptoBulk]|nil=>simp[Rows.uptoBulk]|ptr d=>simp[Rows.uptoBulk]|slice rA spare=>simp[Rows.uptoBulk]|agg O=>simp[Rows.uptoBulk]|iface t d=>simp[Rows.uptoBulk]|map E=>simp[Rows.uptoBulk]|held h=>simp[Rows.uptoBulk]
variable {l:List (DataW H)}
theorem aqN{d:DataW H}(h:d∈l):Rows.uptoBulk d<=Rows.uptoBulkAll l:=by
 induction l with
 |nil=>cases h
 |cons x r E=>
  simp only[Rows.uptoBulkAll];cases List.mem_cons.1 h with
  |inl e=>subst e;omega|inr e=>have:=E e;omega
theorem append(l r:List (DataW H)):Rows.uptoBulkAll (l++r)=Rows.uptoBulkAll l+Rows.uptoBulkAll r:=by
 induction l with
 |nil=>simp[Rows.uptoBulkAll]|cons x l E=>simp only[List.cons_append,Rows.uptoBulkAll,E];omega
theorem length_le(l:List (DataW H)):l.length<=Rows.uptoBulkAll l:=by
 induction l with
 |nil=>simp[Rows.uptoBulkAll]|cons x r E=>have:=one_le x;simp only[Rows.uptoBulkAll,List.length_cons];omega
theorem aq4(rA spare:List (DataW H)):rA.length+spare.length+1<=Rows.uptoBulk (.slice rA spare):=by
 have h1:=length_le rA;have h2:=length_le spare;simp only[Rows.uptoBulk];omega
theorem aqA(rA spare:List (DataW H)):Rows.uptoBulkAll rA+1<=Rows.uptoBulk (.slice rA spare):=by
 simp only[Rows.uptoBulk];omega
theorem bound(E:Rows.uptoSmall H l=true):Rows.uptoBulkAll l<=1048576:=by
 simpa[Rows.uptoSmall]using E
theorem room {n b:Nat}(O:n<=2097152)(E:b<=4096):(n+n / 4+192)*b<=281474976710656:=by
 have h:(n+n / 4+192)*b<=2621632*4096:=Nat.mul_le_mul (by omega) E;omega
end Go.Proofs.YtaikmgjfkejlkaaGreat.bulks
end
