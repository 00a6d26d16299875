/- Part of the proof that the law RefuseEither returns true and leaves its arguments as they were, for all arguments of bulk at most 1048576 (the Upto form). -/
import Derived.Test.YtaikmgjfkejlkaaGreatE109
import Derived.Test.YtaikmgjfkejlkaaGreatE112
import Derived.Test.YtaikmgjfkejlkaaGreatE107
import Derived.Test.YtaikmgjfkejlkaaGreatE108
import Derived.Test.YtaikmgjfkejlkaaGreatE111
import Derived.Test.YtaikmgjfkejlkaaGreatE113
import Derived.Shelf.SlSortCmp.NoneTotal
import Derived.Ground.SlsfProg
import Derived.Test.YtaikmgjfkejlkaaGreatE103
import Derived.Test.YtaikmgjfkejlkaaGreatProg
import Derived.Test.YtaikmgjfkejlkaaGreatE110
set_option linter.all false
set_option maxHeartbeats 4000000
set_option maxRecDepth 100000
section
namespace Go.Sx
open Go.Proofs
open IntKind (i64)
variable {l0:List Nat}{p:Prop}
theorem N2(a0:JL l0)(h:JL l0->p:=by intro ja;(first|done|(repeat' (first|with_reducible refine And.intro ?_ ?_|((with_reducible show _≠_);first|assumption|omega|(simp_all [cy,ei];done) |grind) |with_reducible intro _)) <;>(first|done|with_reducible exact Empty.elim ‹Empty› |with_reducible assumption|rfl|omega|assumption|decide|exact fk ja|(simp only[*,cond_true,cond_false,alj,als,go_sem];done) |(simp only[*,cond_true,cond_false,alj,als,go_sem];(repeat' (first|with_reducible refine And.intro ?_ ?_|((with_reducible show _≠_);first|assumption|omega|(simp_all [cy,ei];done) |grind) |with_reducible intro _)) <;>(first|done|assumption|rfl|omega|decide|exact fk ja|(simp_all [cy,ei];done))) |(simp_all [okI,cy,ei];done) |(simp_all [cy,ei];(first|done|exact fk2 ja)) |exact fk2 ja|(simp_all only[cy,ei,cond_true,cond_false,amg,anB];(first|done|exact fk ja|exact fk2 ja|(simp only[go_sem];((repeat' (first|with_reducible refine And.intro ?_ ?_|((with_reducible show _≠_);first|assumption|omega|(simp_all [cy,ei];done) |grind) |with_reducible intro _)) <;>(first|done|rfl|exact fk ja|exact fk2 ja)))))))):p:=h a0
variable {l1:List Nat}
theorem GY(a0:JL l0)(a1:JL l1)(h:JL l0->JL l1->p:=by intro ja jb;(first|done|(repeat' (first|with_reducible refine And.intro ?_ ?_|((with_reducible show _≠_);first|assumption|omega|(simp_all [cy,ei];done) |grind) |with_reducible intro _)) <;>(first|done|with_reducible exact Empty.elim ‹Empty› |with_reducible assumption|rfl|omega|assumption|decide|exact fk ja|exact fk jb|(simp only[*,cond_true,cond_false,alj,als,go_sem];done) |(simp only[*,cond_true,cond_false,alj,als,go_sem];(repeat' (first|with_reducible refine And.intro ?_ ?_|((with_reducible show _≠_);first|assumption|omega|(simp_all [cy,ei];done) |grind) |with_reducible intro _)) <;>(first|done|assumption|rfl|omega|decide|exact fk ja|exact fk jb|(simp_all [cy,ei];done))) |(simp_all [okI,cy,ei];done) |(simp_all [cy,ei];(first|done|exact fk2 ja|exact fk2 jb)) |exact fk2 ja|exact fk2 jb|(simp_all only[cy,ei,cond_true,cond_false,amg,anB];(first|done|exact fk ja|exact fk jb|exact fk2 ja|exact fk2 jb|(simp only[go_sem];((repeat' (first|with_reducible refine And.intro ?_ ?_|((with_reducible show _≠_);first|assumption|omega|(simp_all [cy,ei];done) |grind) |with_reducible intro _)) <;>(first|done|rfl|exact fk ja|exact fk jb|exact fk2 ja|exact fk2 jb)))))))):p:=h a0 a1
theorem GZ(a0:JL l0)(h:JL l0->p:=by intro ja;simp only[go_sem,hc,hw];all_goals exact N2 ja):p:=h a0
theorem G0(a0:JL l0)(h:JL l0->p:=by intro ja;simp only[go_sem,hc];all_goals exact N2 ja):p:=h a0
theorem WZ(a0:JL l0)(a1:JL l1)(h:JL l0->JL l1->p:=by intro ja jb;simp only[go_sem];all_goals exact GY ja jb):p:=h a0 a1
theorem W0(a0:JL l0)(a1:JL l1)(h:JL l0->JL l1->p:=by intro ja jb;simp only[go_sem,hc,hw];all_goals exact GY ja jb):p:=h a0 a1
theorem W3(a0:JL l0)(a1:JL l1)(h:JL l0->JL l1->p:=by intro ja jb;simp only[go_sem,hc];all_goals exact GY ja jb):p:=h a0 a1
@[go_sem] def iE (s_:C1)(k_0:Nat)(x4:List ((Int×Int)×Int)):Empty⊕(List ((Int×Int)×Int)):=letI q1:=s_.c.getD k_0 default;letI q0:=((s_.d.zs.getD (Int.toNat (q1.gl)) default).reach,q1.hour);.inr (cH .aok .int x4 q0 (i64.wrap ((aq .aok .int x4 q0)+q1.dd)))
def gM (s_:C1)(k_0:Nat)(x4:List ((Int×Int)×Int)):Prop:=(0<=(s_.c.getD k_0 default).gl/\(s_.c.getD k_0 default).gl< (s_.d.zs.length:Int))
def bD (s_:C1):List ((Int×Int)×Int):=(match aj (iE s_) s_.c.length 0 ([])with| .inl x=>x.elim| .inr x4=>x4)
def gB (s_:C1):Prop:=(s_.c.length<=aN->okI (iE s_) (gM s_) s_.c.length 0 ([]))
@[go_sem] def wE:List SV->Option Con:=(pD .G2 λs_=>(pE (.det (gB s_) (.nm .aok .int (bD s_)))))
theorem pc:P1 Tryz.prog 83 wE:=by
 have hG:=mG W2 W2;refine fE hG Tryz.f83 (az λE=>(am (λX=>?_)));dsimp only[an]at X;unfold gB at X;refine⟨nbl rfl,(λid st=>bif Nat.beq id 0 then some (LCR (ρ:=Empty) (σ:=(List ((Int×Int)×Int))) 2 [] [0,1] (λV O=>⟨[(1,.ptr 0 0),(3,.os 1),(8,.rs .Q1 E.c),(9,.v (.int .i64 (E.c.length:Int))),(10,.v (.int .i64 (V:Int)))],[.cells (cellsOf .G2 E),.mp .aok .int O none]⟩) (iE E) (gM E) E.c.length ([]) (E.c.length<=aN) ((·.elim)) ((·.elim)) st)else none),?_,?_⟩;unfold ae Tryz.f83;simp only[ak,true_and,and_true];refine b_ mixed aJ hG kr (λ_=>rfl) (E.c.length:Int) rfl fH (λhb0 V O Y W hw hc=>⟨L0,ag _,?_⟩) (λhb0 O hc=>?_);unfold gM at W;try simp only[hw,ak1]at W
 exact GZ (jl [0,1]);exact G0 (jl [0,1]);unfold ae Tryz.f83;try unfold bD
 exact zq2
@[go_sem] def aW (a0:C1)(x4:List M1×List ((Int×Int)×Int)×List ((Int×Int)×Bool)×Int)(k_1:Nat)(s_1:List M1×List ((Int×Int)×Int)×List ((Int×Int)×Bool)):Empty⊕(List M1×List ((Int×Int)×Int)×List ((Int×Int)×Bool)):=letI q0:=a0.d.reaches.getD (Int.toNat x4.2.2.2) default;letI q2:=i64.wrap ((k_1:Int) - q0.delay);letI q9:=(x4.2.2.2,(k_1:Int));letI q1:=aq .aok .int s_1.2.1 q9;letI q7:=fO q0 q1;letI q3:=if q7.1<q0.aoI then q0.aoI else q7.1;letI q5:=s_1.1++([({ reach:=x4.2.2.2,hour:=q2,dd:=q3,wanted:=q1}:M1)]);letI q8:= !(aq .aok .bool s_1.2.2 q9);letI qb:=(q0.up,q2);letI q4:=cH .aok .int s_1.2.1 qb (i64.wrap ((aq .aok .int s_1.2.1 qb)+q3));letI q6:=cH .aok .bool s_1.2.2 qb true;letI qa:=(s_1.1,s_1.2.1,q6);(bif((q1==0)&&q8)then .inr (s_1.1,s_1.2.1,s_1.2.2)else(bif(q8&&(decide (q1<=1073741824)))then(bif(q7.2.1&&(decide (q2>=0)))then(bif q7.2.1 then .inr (q5,q4,s_1.2.2)else .inr (q5,s_1.2.1,q6))else(bif q7.2.1 then .inr (s_1.1,q4,s_1.2.2)else .inr qa))else .inr qa))
def gc (a0:C1)(x4:List M1×List ((Int×Int)×Int)×List ((Int×Int)×Bool)×Int)(k_1:Nat)(s_1:List M1×List ((Int×Int)×Int)×List ((Int×Int)×Bool)):Prop:=letI q0:=a0.d.reaches.getD (Int.toNat x4.2.2.2) default;letI q3:=i64.wrap ((k_1:Int) - q0.delay);letI q5:=(x4.2.2.2,(k_1:Int));letI q1:=aq .aok .int s_1.2.1 q5;letI q2:= !(aq .aok .bool s_1.2.2 q5);letI q4:=fO q0 q1;(((q1==0)&&q2)=false->((q2&&(decide (q1<=1073741824)))=true->((kV q0 q1)/\((q4.2.1&&(decide (q3>=0)))=true->((s_1.1++([({ reach:=x4.2.2.2,hour:=q3,dd:=(if q4.1<q0.aoI then q0.aoI else q4.1),wanted:=q1}:M1)])).length*32<=d8)))))
@[go_sem] def dm (a0:C1)(k_0:Nat)(x4:List M1×List ((Int×Int)×Int)×List ((Int×Int)×Bool)×Int):(List M1)⊕(List M1×List ((Int×Int)×Int)×List ((Int×Int)×Bool)×Int):=(bif(decide (x4.2.2.2>=0))then(match aj (aW a0 x4) (Int.toNat a0.d.hours) 0 (x4.1,x4.2.1,x4.2.2.1)with| .inl x=>x.elim| .inr s_1=>.inr (s_1.1,s_1.2.1,s_1.2.2,(i64.wrap (x4.2.2.2 - 1))))else .inl x4.1)
def fg (a0:C1)(k_0:Nat)(x4:List M1×List ((Int×Int)×Int)×List ((Int×Int)×Bool)×Int):Prop:=((decide (x4.2.2.2>=0))=true->((0<=x4.2.2.2/\x4.2.2.2< (a0.d.reaches.length:Int))/\((a0.d.hours<9223372036854775808)/\okI (aW a0 x4) (gc a0 x4) (Int.toNat a0.d.hours) 0 (x4.1,x4.2.1,x4.2.2.1))))
def aY (a0:C1):List M1:=(match aj (dm a0) (a0.d.reaches.length+1) 0 ([],(bD a0),[],(i64.wrap ((a0.d.reaches.length:Int) - 1)))with| .inl u0=>u0| .inr x4=>default)
def io (a0:C1):Prop:=letI q0:=i64.wrap ((a0.d.reaches.length:Int) - 1);letI q1:=dm a0;letI q2:=a0.d.reaches.length+1;letI q3:=bD a0;((gB a0)/\(a0.d.reaches.length<=aN->(okI q1 (fg a0) q2 0 ([],q3,[],q0)/\(∀ z_,aj q1 q2 0 ([],q3,[],q0)≠ .inr z_))))
@[go_sem] def u9:List SV->Option Con:=(pD .G2 λa0=>(pE (.det (io a0) (.rs .aow (aY a0)))))
theorem ue:P1 Tryz.prog 36 u9:=by
 have hG:=mG (cn [.st .G2] pc (cp td W2)) W2;refine fN hG Tryz.f36 [.sl .aow] (az λa0=>(am (λhp=>?_)));dsimp only[an]at hp;unfold io at hp;refine⟨nbl rfl,(λid st=>bif Nat.beq id 0 then some (LCV (ρ:=(List M1)) (σ:=(List M1×List ((Int×Int)×Int)×List ((Int×Int)×Bool)×Int)) 3 [.slot 2 (.row .aow ([]))] [0,1,2,3] (λX E=>⟨[(1,.ptr 0 0),(2,.os 3),(3,.os 1),(4,.os 2),(5,.v (.int .i64 E.2.2.2))],[.cells (cellsOf .G2 a0),.mp .aok .int E.2.1 none,.mp .aok .bool E.2.2.1 none,.row .aow E.1]⟩) (dm a0) (fg a0) (a0.d.reaches.length+1) ([],(bD a0),[],(i64.wrap ((a0.d.reaches.length:Int) - 1))) (λ_=>.normal) (λV=>⟨[(2,.os 3)],[.dead,.dead,.dead,.row .aow V]⟩) st)else none),?_,?_⟩;unfold ae Tryz.f36;simp only[ak,true_and,and_true];refine eW mixed aJ hG kr (λ_=>rfl) λX E Y=>⟨(λid st=>bif Nat.beq id 2 then some (LCR (ρ:=Empty) (σ:=(List M1×List ((Int×Int)×Int)×List ((Int×Int)×Bool))) 5 [] [0,1,2,3,4,3] (λW O=>⟨[(1,.ptr 0 0),(2,.os 5),(3,.os 1),(4,.os 2),(5,.v (.int .i64 E.2.2.2)),(6,.ptr 4 0),(32,.v (.int .i64 a0.d.hours)),(33,.v (.int .i64 (W:Int)))],[.cells (cellsOf .G2 a0),.mp .aok .int O.2.1 none,.mp .aok .bool O.2.2 none,.dead,.cells (cellsOf .reach (a0.d.reaches.getD (Int.toNat E.2.2.2) (default:Reach))),.row .aow O.1]⟩) (aW a0 E) (gc a0 E) (Int.toNat a0.d.hours) (E.1,E.2.1,E.2.2.1) (a0.d.hours<9223372036854775808) ((·.elim)) ((·.elim)) st)else none),?_,?_⟩;simp only[ak,true_and,and_true];refine b_ mixed aJ hG kr (λ_=>rfl) a0.d.hours rfl id (λhb1 W O apU hq1 hw hc=>⟨L0,ag _,?_⟩) (λhb1 O hc=>?_);unfold gc at hq1;try simp only[hw,ak1]at hq1
 exact W0 (jl [0,1,2,3,4,5]) (jl [0,1,2,3,4,9]);exact W3 (jl [0,1,2,3,4,5]) (jl [0,1,2,3,4,9]);unfold fg at Y;exact WZ (jl [0,1,2,5]) (jl [0,1,2,3]);unfold ae Tryz.f36;try unfold aY
 exact zq2
@[go_sem] def dJ (a0:C1)(a1:List M1)(k_0:Nat)(x4:List ((Int×Int)×Int)×List ((Int×Int)×Bool)):Unit⊕(List ((Int×Int)×Int)×List ((Int×Int)×Bool)):=letI q0:=a1.getD k_0 default;letI q1:=((a0.d.reaches.getD (Int.toNat (q0.reach)) default).up,q0.hour);letI q2:=(q0.reach,q0.hour);(bif((((!(ct (q0.reach) 0 (i64.wrap ((a0.d.reaches.length:Int) - 1)))) ||(!(ct (q0.hour) 0 (i64.wrap (a0.d.hours - 1))))) ||(!(ct (q0.dd) 1 1073741824))) ||(aq .aok .bool x4.2 q2))then .inl ()else .inr ((cH .aok .int x4.1 q1 (i64.wrap ((aq .aok .int x4.1 q1)+q0.dd))),(cH .aok .bool x4.2 q2 true)))
def iF (a0:C1)(a1:List M1)(k_0:Nat)(x4:List ((Int×Int)×Int)×List ((Int×Int)×Bool)):Prop:=letI q0:=a1.getD k_0 default;letI q1:=(a0.d.reaches.length:Int);(a0.d.reaches.length<=aN->(((((!(ct (q0.reach) 0 (i64.wrap (q1 - 1)))) ||(!(ct (q0.hour) 0 (i64.wrap (a0.d.hours - 1))))) ||(!(ct (q0.dd) 1 1073741824))) ||(aq .aok .bool x4.2 (q0.reach,q0.hour)))=false->(0<=q0.reach/\q0.reach<q1)))
@[go_sem] def gY (a0:C1)(a1:List M1)(x4:List ((Int×Int)×Int)×List ((Int×Int)×Bool))(k_1:Nat)(s_1:Unit):Unit⊕Unit:=letI q0:=a1.getD k_1 default;letI q1:=a0.d.reaches.getD (Int.toNat (q0.reach)) default;(bif(((decide (q0.wanted<=0)) ||(q0.wanted !=(aq .aok .int x4.1 (q0.reach,(i64.wrap (q0.hour+q1.delay)))))) ||((q0.dd !=q1.aoI)&&(decide ((jD q1 (i64.wrap (q0.dd - 1))).1>=q0.wanted))))then .inl ()else .inr ())
def iG (a0:C1)(a1:List M1)(x4:List ((Int×Int)×Int)×List ((Int×Int)×Bool))(k_1:Nat)(s_1:Unit):Prop:=(0<=(a1.getD k_1 default).reach/\(a1.getD k_1 default).reach< (a0.d.reaches.length:Int))
def dK (a0:C1)(a1:List M1):List ((Int×Int)×Int)×Bool:=(match aj (dJ a0 a1) a1.length 0 ((bD a0),[])with| .inl u0=>([],false) | .inr x4=>(match aj (gY a0 a1 x4) a1.length 0 ()with| .inl ape=>([],false) | .inr s_1=>(x4.1,true)))
def jU (a0:C1)(a1:List M1):Prop:=letI q0:=((bD a0),[]);letI q1:=dJ a0 a1;((gB a0)/\(a1.length<=aN->(okI q1 (iF a0 a1) a1.length 0 q0/\(∀ x4,aj q1 a1.length 0 q0=.inr x4->(a1.length<=aN->okI (gY a0 a1 x4) (iG a0 a1 x4) a1.length 0 ())))))
@[go_sem] def yB:List SV->Option Con:=(pD .G2 λa0=>(pR .aow λa1=>(pE (.det (jU a0 a1) (.tup [.rm .aok .int ((dK a0 a1).1),.v (.bool ((dK a0 a1).2))])))))
theorem xH:P1 Tryz.prog 45 yB:=by
 have hG:=mG (cp pJ (cp wl (cn [.st .G2] pc W2))) W2;refine fN hG Tryz.f45 [.mp .aok .int,.o] (az λa0=>(bM λa1=>(am (λhp=>?_))));dsimp only[an]at hp;unfold jU at hp;refine⟨nbl rfl,(λid st=>bif Nat.beq id 0 then some (LCR (ρ:=Unit) (σ:=(List ((Int×Int)×Int)×List ((Int×Int)×Bool))) 3 [] [0,1,2] (λV E=>⟨[(1,.rs .aow a1),(2,.ptr 0 0),(4,.os 1),(6,.os 2),(17,.rs .aow a1),(18,.v (.int .i64 (a1.length:Int))),(19,.v (.int .i64 (V:Int)))],[.cells (cellsOf .G2 a0),.mp .aok .int E.1 none,.mp .aok .bool E.2 none]⟩) (dJ a0 a1) (iF a0 a1) a1.length ((bD a0),[]) (a1.length<=aN) (λ_=>.ret) (λu0=>⟨[(4,.v (.map none)),(5,.v (.bool false))],[.dead,.dead,.dead]⟩) st)else bif Nat.beq id 2 then some (LCR (ρ:=Unit) (σ:=Unit) 3 [] [0,1,2] (λX O=>⟨[(2,.ptr 0 0),(4,.os 1),(82,.rs .aow a1),(83,.v (.int .i64 (a1.length:Int))),(84,.v (.int .i64 (X:Int)))],[.cells (cellsOf .G2 a0),.mp .aok .int (cy (aj (dJ a0 a1) a1.length 0 ((bD a0),[]))).1 none,.dead]⟩) (gY a0 a1 (cy (aj (dJ a0 a1) a1.length 0 ((bD a0),[])))) (iG a0 a1 (cy (aj (dJ a0 a1) a1.length 0 ((bD a0),[])))) a1.length () (a1.length<=aN) (λ_=>.ret) (λY=>⟨[(4,.v (.map none)),(5,.v (.bool false))],[.dead,.dead,.dead]⟩) st)else none),?_,?_⟩;unfold ae Tryz.f45;simp only[ak,true_and,and_true];refine⟨?_,?_⟩;refine b_ mixed aJ hG kr (λ_=>rfl) (a1.length:Int) rfl fH (λhb0 V E apq W hw hc=>⟨L0,ag _,?_⟩) (λhb0 E hc=>?_);unfold iF at W;try simp only[hw,ak1]at W
 exact GZ (jl [0,1,2]);exact G0 (jl [0,1,2]);refine b_ mixed aJ hG kr (λ_=>rfl) (a1.length:Int) rfl fH (λhb1 X O apU hq1 hw hc=>⟨L0,ag _,?_⟩) (λhb1 O hc=>?_);unfold iG at hq1;try simp only[hw,ak1]at hq1
 exact GZ (jl [0,1,2]);exact G0 (jl [0,1,2]);unfold ae Tryz.f45;try unfold dK
 exact zq2
def aI (d:ah)(l_:List bn)(fr:Int)(to:Int)(known:Int):C1×Int:=letI q0:=({ d:=({ name:=(ByteArray.mk #[]),hours:=0,aoE:=({ cap:=0,start:=0}:apK),reaches:=[],zs:=[],aoK:=[],ai:=[],aoF:=[],apf:=[]}:ah),c:=[]}:C1);letI q1:=aB d l_ fr to known;letI q2:=({ d:=d,c:=q1.1}:C1);letI q3:=bG d (q1.1);(bif(q1.2 !=0)then(q0,q1.2)else(bif(q3.2.2 !=0)then(q0,q3.2.2)else(bif(decide (((av q2).length:Int) > 10))then(q0,2)else(q2,0))))
def ny (d:ah)(l_:List bn)(fr:Int)(to:Int)(known:Int):Prop:=letI q0:=aB d l_ fr to known;((ra d l_ fr to known)/\((q0.2 !=0)=false->((lp d (q0.1))/\(((bG d (q0.1)).2.2 !=0)=false->(fB ({ d:=d,c:=q0.1}:C1))))))
@[go_sem] def Id:List SV->Option Con:=(pD .al λd=>(pR .B1 λl_=>(pI λfr=>(pI λto=>(pI λknown=>(pE (.det (ny d l_ fr to known) (.tup [.agg (cellsOf .G2 ((aI d l_ fr to known).1)),.v (.int .i64 ((aI d l_ fr to known).2))]))))))))
theorem xI:P1 Tryz.prog 29 Id:=by
 have hG:=mG (cn [.st .al,.sl .B1,.o,.o,.o] AI (cn [.st .G2] kp (cn [.st .al,.sl .Q1] tu W2))) W2;refine fN hG Tryz.f29 [.st .G2,.o] (az λd=>(bM λO=>(aG λfr=>(aG λto=>(aG λknown=>(am (λE=>?_)))))));dsimp only[an]at E;unfold ny at E;refine⟨nbl rfl,L0,ag _,?_⟩;unfold ae Tryz.f29;try unfold aI
 exact zq2
@[go_sem] def lq (fr:Int)(to:Int)(r:aoz)(k_0:Nat)(x4:Int):Empty⊕Int:=(bif(((r.Y1.getD k_0 default).reach==r.reach)&&(ct ((r.Y1.getD k_0 default).hour) fr to))then .inr (i64.wrap (x4+(r.Y1.getD k_0 default).dd))else .inr x4)
def iY (fr:Int)(to:Int)(r:aoz):Int:=(match aj (lq fr to r) r.Y1.length 0 0 with| .inl x=>x.elim| .inr x4=>x4)
@[go_sem] def Cr:List SV->Option Con:=(pI λfr=>(pI λto=>(pX .refusal λr=>(pE (.det True (.v (.int .i64 (iY fr to r))))))))
theorem pd:P1 Tryz.prog 47 Cr:=by
 have hG:=mG (cp pJ W2) W2;refine fN hG Tryz.f47 [.o] (aG λfr=>(aG λto=>(gu λr=>(am (λW=>?_)))));dsimp only[an]at W;refine⟨nbl rfl,(λid st=>bif Nat.beq id 0 then some (LCR (ρ:=Empty) (σ:=Int) 0 [] [] (λO E=>⟨[(0,.v (.int .i64 fr)),(1,.v (.int .i64 to)),(2,.ep (cellsOf .refusal r) 0),(5,.v (.int .i64 E)),(9,.rs .aow r.Y1),(10,.v (.int .i64 (r.Y1.length:Int))),(11,.v (.int .i64 (O:Int)))],[]⟩) (lq fr to r) pT r.Y1.length 0 (r.Y1.length<=aN) ((·.elim)) ((·.elim)) st)else none),?_,?_⟩;unfold ae Tryz.f47;simp only[ak,true_and,and_true];refine b_ mixed aJ hG kr (λ_=>rfl) (r.Y1.length:Int) rfl fH (λhb0 O E V _ hw hc=>⟨L0,ag _,?_⟩) (λhb0 E hc=>?_);exact bE (jl []);exact bF (jl []);unfold ae Tryz.f47;try unfold iY
 exact zq2
def ml (r1:aoz)(r:aoz)(x:Reach):Bool:=(decide ((iY r.hour r.hour r1) > x.cap))
@[go_sem] def Cs:List SV->Option Con:=(pXF 47 (pX .refusal λr1=>(pE ((pX .refusal λr=>(pX .reach λx=>(pE (.det True (.v (.bool (ml r1 r x)))))))))))
theorem A5:P1 Tryz.prog 48 Cs:=by
 have hG:=mG (cp pd W2) W2;refine fN hG Tryz.f48 [.o] (An (gu λO=>(am ((gu λr=>(gu λx=>(am (λE=>?_))))))));dsimp only[an]at E;refine⟨nbl rfl,L0,ag _,?_⟩;unfold ae Tryz.f48;try unfold ml
 exact zq2
def mn (r1:aoz)(r:aoz)(x:Reach):Bool:=(decide ((iY (i64.wrap ((i64.wrap (r.hour - x.delay))+1)) r.hour r1) > x.ao7))
@[go_sem] def Ct:List SV->Option Con:=(pXF 47 (pX .refusal λr1=>(pE ((pX .refusal λr=>(pX .reach λx=>(pE (.det True (.v (.bool (mn r1 r x)))))))))))
theorem A6:P1 Tryz.prog 49 Ct:=by
 have hG:=mG (cp pd W2) W2;refine fN hG Tryz.f49 [.o] (An (gu λO=>(am ((gu λr=>(gu λx=>(am (λE=>?_))))))));dsimp only[an]at E;refine⟨nbl rfl,L0,ag _,?_⟩;unfold ae Tryz.f49;try unfold mn
 exact zq2
def mo (r:aoz)(r1:aoz)(d:ah):Bool:=(((r.reach==0)&&(r.hour==0))&&(decide ((iY 0 d.hours r1) > d.aoE.start)))
@[go_sem] def Cu:List SV->Option Con:=(pX .refusal λr=>(pXF 47 (pX .refusal λr1=>(pE ((pX .al λd=>(pE (.det True (.v (.bool (mo r r1 d)))))))))))
theorem A7:P1 Tryz.prog 50 Cu:=by
 have hG:=mG (cp pd W2) W2;refine fN hG Tryz.f50 [.o] (gu λr=>(An (gu λO=>(am ((gu λd=>(am (λE=>?_))))))));dsimp only[an]at E;refine⟨nbl rfl,L0,ag _,?_⟩;unfold ae Tryz.f50;try unfold mo
 exact zq2
def mq (m:List ((Int×Int)×Int))(r:aoz)(x:Reach):Bool:=(((decide ((aq .aok .int m (r.reach,r.hour)) > 0))&&(decide (r.hour<x.delay))) ||(decide ((aq .aok .int m (r.reach,r.hour)) > (jD x 1073741824).1)))
@[go_sem] def Cv:List SV->Option Con:=(pXM .aok .int λm=>(pX .refusal λr=>(pX .reach λx=>(pE (.det True (.v (.bool (mq m r x))))))))
theorem A8:P1 Tryz.prog 51 Cv:=by
 have hG:=mG (cp wl W2) W2;refine fN hG Tryz.f51 [.o] (Kn λm=>(gu λr=>(gu λx=>(am (λE=>?_)))));dsimp only[an]at E;refine⟨nbl rfl,L0,ag _,?_⟩;unfold ae Tryz.f51;try unfold mq
 exact zq2
@[go_sem] def dT (a0:ah)(a1:List bn)(a2:Int)(a3:Int)(a4:Int)(a5:aoz)(k_0:Nat)(x4:Unit):Unit⊕Unit:=letI q0:=a5.ai.getD k_0 0;(bif((!(dW (av ((aI a0 a1 a2 a3 a4).1)) q0)) ||((decide ((k_0:Int) > 0))&&(decide (q0<=(a5.ai.getD (Int.toNat (i64.wrap ((k_0:Int) - 1))) 0)))))then .inl ()else .inr ())
def lr (a0:ah)(a1:List bn)(a2:Int)(a3:Int)(a4:Int)(a5:aoz)(k_0:Nat)(x4:Unit):Prop:=letI q0:=i64.wrap ((k_0:Int) - 1);((!(dW (av ((aI a0 a1 a2 a3 a4).1)) (a5.ai.getD k_0 0)))=false->((decide ((k_0:Int) > 0))=true->(0<=q0/\q0< (a5.ai.length:Int))))
@[go_sem] def gm (a0:ah)(a1:List bn)(a2:Int)(a3:Int)(a4:Int)(a5:aoz)(k_1:Nat)(s_1:Unit):Bool⊕Unit:=letI q0:=a0.reaches.getD (Int.toNat a5.reach) default;(bif(Nat.beq k_1 0)then(bif(1==a5.kind)then .inl (ml a5 a5 q0)else .inr ())else(bif(Nat.beq k_1 1)then(bif(3==a5.kind)then .inl (mn a5 a5 q0)else .inr ())else(bif(Nat.beq k_1 2)then(bif(4==a5.kind)then .inl (mo a5 a5 a0)else .inr ())else(bif(7==a5.kind)then .inl (mq ((dK (da ((aI a0 a1 a2 a3 a4).1) a5.ai) a5.Y1).1) a5 q0)else .inr ()))))
def t7 (a0:ah)(a1:List bn)(a2:Int)(a3:Int)(a4:Int)(a5:aoz)(k_1:Nat)(s_1:Unit):Prop:=True
def dz (a0:ah)(a1:List bn)(a2:Int)(a3:Int)(a4:Int)(a5:aoz):Bool×Int:=letI q0:=aI a0 a1 a2 a3 a4;(bif(q0.2 !=0)then(false,q0.2)else(match aj (dT a0 a1 a2 a3 a4 a5) a5.ai.length 0 ()with| .inl u0=>(false,290) | .inr x4=>(bif(((!(dK (da (q0.1) a5.ai) a5.Y1).2) ||(!(ct a5.reach 0 (i64.wrap ((a0.reaches.length:Int) - 1))))) ||(!(ct a5.hour 0 (i64.wrap (a0.hours - 1)))))then(false,0)else(match aj (gm a0 a1 a2 a3 a4 a5) 4 0 ()with| .inl ape=>(ape,0) | .inr s_1=>(false,0)))))
def gZ (a0:ah)(a1:List bn)(a2:Int)(a3:Int)(a4:Int)(a5:aoz):Prop:=letI q0:=aI a0 a1 a2 a3 a4;letI q1:=dT a0 a1 a2 a3 a4 a5;letI q2:=da (q0.1) a5.ai;letI q3:=(a0.reaches.length:Int);((ny a0 a1 a2 a3 a4)/\((q0.2 !=0)=false->((fB (q0.1))/\(a5.ai.length<=aN->(okI q1 (lr a0 a1 a2 a3 a4 a5) a5.ai.length 0 ()/\(∀ x4,aj q1 a5.ai.length 0 ()=.inr x4->((jv (q0.1) a5.ai)/\((jU q2 a5.Y1)/\((((!(dK q2 a5.Y1).2) ||(!(ct a5.reach 0 (i64.wrap (q3 - 1))))) ||(!(ct a5.hour 0 (i64.wrap (a0.hours - 1)))))=false->(0<=a5.reach/\a5.reach<q3))))))))))
@[go_sem] def G1:List SV->Option Con:=(pD .al λa0=>(pR .B1 λa1=>(pI λa2=>(pI λa3=>(pI λa4=>(pD .refusal λa5=>(pE (.det (gZ a0 a1 a2 a3 a4 a5) (.tup [.v (.bool ((dz a0 a1 a2 a3 a4 a5).1)),.v (.int .i64 ((dz a0 a1 a2 a3 a4 a5).2))])))))))))
theorem wo:P1 Tryz.prog 15 G1:=by
 have hG:=mG (cn [.st .al,.sl .B1,.o,.o,.o] xI (cn [.st .G2] kp (cn [.st .G2,.sl .int] sR (cn [.sl .int,.o] lQ (cn [.st .G2,.sl .aow] xH (cp pJ (cp A5 (cp A6 (cp A7 (cp A8 W2)))))))))) W2;refine fN hG Tryz.f15 [.o,.o] (az λa0=>(bM λa1=>(aG λX=>(aG λV=>(aG λW=>(az λE=>(am (λhp=>?_))))))));dsimp only[an]at hp;unfold gZ at hp;refine⟨nbl rfl,(λid st=>bif Nat.beq id 0 then some (LCR (ρ:=Unit) (σ:=Unit) 3 [] [0,1,2] (λk_0 x4=>⟨[(6,.ptr 0 0),(11,.ptr 1 0),(14,.ptr 2 0),(15,.rs .int (av ((aI a0 a1 X V W).1))),(40,.rs .int E.ai),(41,.v (.int .i64 (E.ai.length:Int))),(42,.v (.int .i64 (k_0:Int)))],[.cells (cellsOf .al a0),.cells (cellsOf .refusal E),.cells (cellsOf .G2 ((aI a0 a1 X V W).1))]⟩) (dT a0 a1 X V W E) (lr a0 a1 X V W E) E.ai.length () (E.ai.length<=aN) (λ_=>.ret) (λu0=>⟨[(12,.v (.bool false)),(13,.v (.int .i64 290))],[.dead,.dead,.dead]⟩) st)else bif Nat.beq id 2 then some (LC (ρ:=Bool) (σ:=Unit) (lk 11 st.t=.ptr 1 0/\lk 113 st.t=.ls 2 [.v (.int .i64 1),.fn 48 [] [.ptr 5 0,.ptr 1 0,.ptr 4 0],.v (.int .i64 3),.fn 49 [] [.ptr 5 0,.ptr 1 0,.ptr 4 0],.v (.int .i64 4),.fn 50 [] [.ptr 1 0,.ptr 5 0,.ptr 0 0],.v (.int .i64 7),.fn 51 [] [.ptr 3 0,.ptr 1 0,.ptr 4 0]]/\lk 114 st.t=.v (.int .i64 4)/\lk 115 st.t=.v (.int .i64 0)/\st.h=[.cells (cellsOf .al a0),.cells (cellsOf .refusal E),.cells (cellsOf .G2 ((aI a0 a1 X V W).1)),.cells [.rm .aok .int ((dK (da ((aI a0 a1 X V W).1) E.ai) E.Y1).1)],.cells (cellsOf .reach (a0.reaches.getD (Int.toNat E.reach) (default:Reach))),.cells [.fn 47 [] [.ptr 1 0]]]) (aj (gm a0 a1 X V W E) 4 0 ()) (λ_=>.ret) (λY=>⟨[(12,.v (.bool Y)),(13,.v (.int .i64 0))],[.dead,.dead,.dead,.dead,.dead,.dead]⟩) (λs_1=>⟨[],[.dead,.dead,.dead,.dead,.dead,.dead]⟩))else none),?_,?_⟩
 ·unfold ae Tryz.f15;simp only[ak,true_and,and_true];refine⟨?_,?_⟩;refine b_ mixed aJ hG kr (λ_=>rfl) (E.ai.length:Int) rfl fH (λhb0 k_0 x4 apq hq0 hw hc=>⟨L0,ag _,?_⟩) (λhb0 x4 hc=>?_);unfold lr at hq0;try simp only[hw,ak1]at hq0
  exact bE (jl [0,1,2]);exact bF (jl [0,1,2])
  ·refine SF mixed aJ hG kr λst lc hC hp=>?_;simp only[go_sem,Nat.reduceBEq,ak3]at hC;subst hC;obtain⟨t,h⟩:=st;dsimp only[LC]at hp;obtain⟨e1_0,e1_1,e1_2,e1_3,rfl⟩:=hp;refine⟨_,_,_,(gm a0 a1 X V W E),(t7 a0 a1 X V W E),4,(),_,_,_,(λO s_1=>⟨[(11,.ptr 1 0),(113,.ls 2 [.v (.int .i64 1),.fn 48 [] [.ptr 5 0,.ptr 1 0,.ptr 4 0],.v (.int .i64 3),.fn 49 [] [.ptr 5 0,.ptr 1 0,.ptr 4 0],.v (.int .i64 4),.fn 50 [] [.ptr 1 0,.ptr 5 0,.ptr 0 0],.v (.int .i64 7),.fn 51 [] [.ptr 3 0,.ptr 1 0,.ptr 4 0]]),(114,.v (.int .i64 4)),(115,.v (.int .i64 (O:Int)))],[.cells (cellsOf .al a0),.cells (cellsOf .refusal E),.dead,.cells [.rm .aok .int ((dK (da ((aI a0 a1 X V W).1) E.ai) E.Y1).1)],.cells (cellsOf .reach (a0.reaches.getD (Int.toNat E.reach) (default:Reach))),.cells [.fn 47 [] [.ptr 1 0]]]⟩),⟨t,[.cells (cellsOf .al a0),.cells (cellsOf .refusal E),.cells (cellsOf .G2 ((aI a0 a1 X V W).1)),.cells [.rm .aok .int ((dK (da ((aI a0 a1 X V W).1) E.ai) E.Y1).1)],.cells (cellsOf .reach (a0.reaches.getD (Int.toNat E.reach) (default:Reach))),.cells [.fn 47 [] [.ptr 1 0]]]⟩,[0,1,2,3,4,5],rfl,g8 _ _ _ λ_ _ _ _=>trivial,aph.refl _,nbl rfl,?_,λO s_1 hk1 hp1=>?_⟩
   ·simp only[go_sem,e1_0,e1_1,e1_2,e1_3];all_goals (first|done|decide|(repeat' (first|refine And.intro ?_ ?_|rfl|decide)))
   refine⟨L0,?_,?_⟩;simp only[ak,and_self,true_and,and_true]
   ·have hkk:O=0\/O=1\/O=2\/O=3\/O=4:=by omega
    have hw1_0:i64.wrap ((0:Int)+1)=((0+1:Nat):Int):=by decide
    have hw1_1:i64.wrap ((1:Int)+1)=((1+1:Nat):Int):=by decide
    have hw1_2:i64.wrap ((2:Int)+1)=((2+1:Nat):Int):=by decide
    have hw1_3:i64.wrap ((3:Int)+1)=((3+1:Nat):Int):=by decide
    rcases hkk with rfl|rfl|rfl|rfl|rfl;all_goals try (have hq1:=hp1 (by decide))
    all_goals try unfold t7 at hq1
    all_goals try simp only[go_sem,Nat.reduceBEq,Nat.reduceEqDiff,cond_true,cond_false,true_imp_iff,false_imp_iff,ak7,true_and,and_true,reduceCtorEq]at hq1
    all_goals simp only[go_sem,gm,aog,Nat.reduceLT,Nat.reduceEqDiff]
    all_goals exact uM (jl [0,1,2,3,4,5])
 unfold ae Tryz.f15;try unfold dz
 exact zq2
def bV (a0:M1)(f_:T1)(rs_:List Reach):Bool:=letI q0:=rs_.getD (Int.toNat a0.reach) default;letI q1:=a0.reach==f_.index;letI q2:=a0.hour==f_.hour;(bif(f_.kind==1)then(q1&&q2)else(bif(f_.kind==3)then((q1&&(decide (a0.hour<=f_.hour)))&&(decide (a0.hour > (i64.wrap (f_.hour - q0.delay)))))else(bif(f_.kind==4)then(a0.reach==0)else((q0.up==f_.index)&&q2))))
def jK (a0:M1)(f_:T1)(rs_:List Reach):Prop:=letI q0:=0<=a0.reach/\a0.reach< (rs_.length:Int);((f_.kind==1)=false->(((f_.kind==3)=true->(((a0.reach==f_.index)&&(decide (a0.hour<=f_.hour)))=true->q0))/\((f_.kind==3)=false->((f_.kind==4)=false->q0))))
@[go_sem] noncomputable def uf:List SV->Option Con:=(pD .aow λa0=>(pX .fault λf_=>(pXR .reach λrs_=>(pE (.det (jK a0 f_ rs_) (.v (.bool (bV a0 f_ rs_))))))))
theorem tE:P1 Tryz.prog 77 uf:=by
 have hG:=mG W2 W2;refine fN hG Tryz.f77 [.o] (az λa0=>(gu λV=>(Ao λO=>(am (λE=>?_)))));dsimp only[an]at E;unfold jK at E;refine⟨nbl rfl,L0,ag _,?_⟩;unfold ae Tryz.f77;try unfold bV
 exact zq2
def bJ (a:M1)(b:M1):Int:=(jH ([(bj b.reach a.reach),(bj a.hour b.hour)]))
@[go_sem] def nz:List SV->Option Con:=(pD .aow λa=>(pD .aow λb=>(pE (.det True (.v (.int .i64 (bJ a b)))))))
theorem tF:P1 Tryz.prog 80 nz:=by
 have hG:=mG (cn [.sl .int] yR (cp eX W2)) W2;refine fN hG Tryz.f80 [.o] (az λa=>(az λb=>(am (λE=>?_))));dsimp only[an]at E;refine⟨nbl rfl,L0,ag _,?_⟩;unfold ae Tryz.f80;try unfold bJ
 exact zq2
@[go_sem] def vZ (x:Int×M1):List SV:=[.v (.int .i64 x.1),.agg (cellsOf .aow x.2)]
@[go_sem] def lF:List SV->Option Con:=(pR .aow λs_=>(pE (.det True (.fn 135 [] [.ep [.rs .aow s_] 0]))))
theorem lg:P1 Tryz.prog 78 lF:=by
 have hG:=mG W2 W2;refine fN hG Tryz.f78 [.o] (bM λO=>(am (λE=>?_)));refine⟨nbl rfl,L0,ag _,?_⟩;unfold ae Tryz.f78;simp only[go_sem,sJ,sK,Nat.reduceBEq,Nat.reduceLeDiff,Nat.reduceAdd,Nat.reduceSub,Nat.reduceMul]
@[go_sem] def aP (s_:List M1)(k_0:Nat)(x4:List (Int×M1)×Int):(List (Int×M1))⊕(List (Int×M1)×Int):=(bif(decide (x4.2>=0))then .inr ((x4.1++[(x4.2,(s_.getD (Int.toNat x4.2) default))]),(i64.wrap (x4.2 - 1)))else .inl x4.1)
def b7 (s_:List M1)(aoM:List (List SV))(k_0:Nat)(x4:List (Int×M1)×Int):Prop:=((decide (x4.2>=0))=true->((0<=x4.2/\x4.2< (s_.length:Int))/\(aoM[x4.1.length]? =some (vZ (x4.2,(s_.getD (Int.toNat x4.2) default))))))
def aH (s_:List M1):List (Int×M1):=(match aj (aP s_) (s_.length+1) 0 (([]:List (Int×M1)),(i64.wrap ((s_.length:Int) - 1)))with| .inl u0=>u0| .inr x4=>default)
def cm (s_:List M1)(aoM:List (List SV)):Prop:=letI q0:=(([]:List (Int×M1)),(i64.wrap ((s_.length:Int) - 1)));letI q1:=aP s_;letI q2:=s_.length+1;(s_.length<=aN->(okI q1 (b7 s_ aoM) q2 0 q0/\(∀ z_,aj q1 q2 0 q0≠ .inr z_)/\(∀ u0,aj q1 q2 0 q0=.inl u0->(aoM.length=u0.length))))
theorem kz (O:List M1)(E:List (List SV))(hp:cm O E):Ak Tryz.prog 135 (λy=>[y,.ep [.rs .aow O] 0]) [] E:=by
 unfold cm at hp;refine BD mixed aJ (fn:=Tryz.f135) (c:=ae Tryz.f135) kr kr kr kr rfl (n:=0) rfl (G:=λX=>Al [] [] (Dg E X)) (λX hy=>?_) (λargs w=>by kernel_rfl);have hG:=mGY W2 W2 hy;refine⟨hG,nbl rfl,(λid st=>bif Nat.beq id 0 then some (YA (ρ:=(List (Int×M1))) (σ:=(List (Int×M1)×Int)) 1 [] [0] (λY W=>⟨[(0,.os 0),(1,.ep [.rs .aow O] 0),(3,.v (.int .i64 W.2))],[.ab (X.1 (W.1.length+1))]⟩) (aP O) (b7 O E) (O.length+1) (([]:List (Int×M1)),(i64.wrap ((O.length:Int) - 1))) (λ_=>.normal) (λV=>⟨[],[.ab (X.1 (V.length+1))]⟩) ⟨[],[.ab (X.1 0)]⟩ st)else none),?_,?_⟩;unfold ae Tryz.f135;simp only[ak,true_and,and_true];refine IU mixed aJ hG kr (λ_=>rfl) λY W hq0=>⟨L0,ag _,?_⟩;unfold b7 at hq0;exact M5 (jl [0]);unfold ae Tryz.f135;exact M5 (jl [0])
end Go.Sx
end
section
namespace Go.Proofs
open Go.Shelf Go.Sx
def Tryz.aqf:Go.Shelf.Ren:=⟨λ|6=>79|15=>133|14=>136|28=>199|29=>200|20=>201|21=>202|22=>203|23=>204|24=>205|25=>206|26=>207|27=>208|46=>264|47=>260|48=>261|49=>265|50=>266|57=>307|n=>n,λ|22=>36|24=>75|25=>150|3=>3|39=>229|0=>0|53=>294|55=>296|4=>4|46=>288|45=>287|50=>267|5=>5|9=>9|66=>342|70=>60|76=>375|77=>376|n=>n,λ|n=>n⟩
theorem Tryz.aqG:Go.Proofs.SlLaysF0.n6 Tryz.prog Tryz.aqf:=⟨kr,⟨Tryz.f79.name,by decide,kr⟩,⟨Tryz.f136.name,by decide,kr⟩,kr,⟨Tryz.f201.name,by decide,kr⟩,⟨Tryz.f202.name,by decide,kr⟩,⟨Tryz.f203.name,by decide,kr⟩,⟨Tryz.f204.name,by decide,kr⟩,⟨Tryz.f205.name,by decide,kr⟩,⟨Tryz.f206.name,by decide,kr⟩,⟨Tryz.f207.name,by decide,kr⟩,⟨Tryz.f208.name,by decide,kr⟩,kr,kr,⟨Tryz.f264.name,by decide,kr⟩,kr,kr,⟨Tryz.f265.name,by decide,kr⟩,⟨Tryz.f266.name,by decide,kr⟩,⟨Tryz.f307.name,by decide,kr⟩,kr,λ_=>kr,λ_=>kr,λ_=>kr,kr,λ_=>kr,λ_=>kr,λ_=>kr,kr,λ_=>kr,λ_=>kr,λ_=>kr,kr,λ_=>kr,λ_=>kr,λ_=>kr,kr,λ_=>kr,λ_=>kr,λ_=>kr,kr,λ_=>kr,λ_=>kr,λ_=>kr,kr,λ_=>kr,λ_=>kr,λ_=>kr,kr,λ_=>kr,λ_=>kr,λ_=>kr,kr,λ_=>kr,λ_=>kr,λ_=>kr,kr,λ_=>kr,λ_=>kr,λ_=>kr,kr,λ_=>kr,λ_=>kr,λ_=>kr,kr,λ_=>kr,λ_=>kr,λ_=>kr,kr,λ_=>kr,λ_=>kr,λ_=>kr,kr,λ_=>kr,λ_=>kr,λ_=>kr,kr,λ_=>kr,λ_=>kr,λ_=>kr,kr,λ_=>kr,λ_=>kr,λ_=>kr,kr,λ_=>kr,λ_=>kr,λ_=>kr⟩
end Go.Proofs
end
section
namespace Go.Sx
open Go.Lib Go.Proofs Go.RowKit Go.Shelf Go.Sort
def plt (a b:M1):Prop:=mD [(b.reach,a.reach),(a.hour,b.hour)]
def Cw (a b:M1):bJ a b<0↔plt a b:=BW [(b.reach,a.reach),(a.hour,b.hour)]
theorem zH:SWO (ltOf bJ):=KG Cw (λx=>by simp only[plt,mD,and_false,or_false];omega) (λx y z h1 h2=>by simp only[plt,mD,and_false,or_false]at *;omega) (λx y z h1 h2=>by simp only[plt,mD,and_false,or_false]at *;omega)
noncomputable def C9:List SV->List Ob->Option aoJ:=iS .aow 80 [] bJ
@[go_sem]def W4 {l0:List M1}:C9 [.os 0,.fn 80 [] []] [.row .aow l0]=some (fK (apart bJ l0) (.tup []) [.row .aow (srt bJ l0)]):=na
theorem Lo:xe .aow:=λx s E=>by
 simp only[cellsOf,ala,alV,or_false]at E;rcases E with rfl|rfl|rfl|rfl;all_goals exact⟨_,rfl,rfl⟩
theorem G3 (x y:M1):nz (.agg (cellsOf .aow x):: .agg (cellsOf .aow y)::[])=some (.det True (.v (.int .i64 (bJ x y)))):=by
 simp only[go_sem]
theorem Lp:aoH Tryz.prog 79 C9:=
 qM (k:=.aow) Tryz.aqG (λw=>by kernel_rfl) (λw=>by kernel_rfl) Lo (by decide) (g:=80) (caps:=[]) tF (cf:=bJ) G3 zH (λs E=>by cases E) ⟨default,default,G3 _ _⟩
end Go.Sx
end
section
namespace Go.Sx
open Go.Proofs
open IntKind (i64)
@[go_sem] def b8 (s_:C1)(l_:List M1)(f:T1)(z_0:Int×M1)(x4:List ((Int×Int)×Bool)×List M1):Empty⊕(List ((Int×Int)×Bool)×List M1):=letI q0:=s_.d.reaches.getD (Int.toNat z_0.2.reach) default;(bif((bV z_0.2 f s_.d.reaches) ||(aq .aok .bool x4.1 (q0.up,z_0.2.hour)))then .inr ((cH .aok .bool x4.1 (z_0.2.reach,(i64.wrap (z_0.2.hour+q0.delay))) true),(x4.2++([z_0.2])))else .inr (x4.1,x4.2))
def fo (s_:C1)(l_:List M1)(f:T1)(z_0:Int×M1)(x4:List ((Int×Int)×Bool)×List M1):Prop:=letI q0:=0<=z_0.2.reach/\z_0.2.reach< (s_.d.reaches.length:Int);letI q1:=bV z_0.2 f s_.d.reaches;((jK z_0.2 f s_.d.reaches)/\((q1=false->q0)/\((q1||(aq .aok .bool x4.1 ((s_.d.reaches.getD (Int.toNat z_0.2.reach) default).up,z_0.2.hour)))=true->(q0/\((x4.2++([z_0.2])).length*32<=d8)))))
def b9 (s_:C1)(l_:List M1)(f:T1):List M1:=(match cB (b8 s_ l_ f) (aH l_) ([],[])with| .inl x=>x.elim| .inr x4=>(srt bJ x4.2))
def iH (s_:C1)(l_:List M1)(f:T1):Prop:=letI q0:=aH l_;letI q1:=b8 s_ l_ f;((cm l_ (q0.map vZ))/\okL q1 (fo s_ l_ f) q0 ([],[])/\(∀ x4,cB q1 q0 ([],[])=.inr x4->(apart bJ x4.2)))
@[go_sem] def v5:List SV->Option Con:=(pD .G2 λs_=>(pR .aow λl_=>(pD .fault λf=>(pE (.det (iH s_ l_ f) (.nw .aow (b9 s_ l_ f)))))))
theorem ahU {p:Prop}(h:p:=by simp only[go_sem,e0_0,e0_1,e0_2,e0_3,e0_4,e0_5]):p:=h
theorem ahV {l0 l1:List Nat}(a0:JL l0)(a1:JL l1){p:Prop}(h:JL l0->JL l1->p:=by intro ja jb;simp only[go_sem,b8,psT,vZ,alr,ak_];all_goals exact gw ja jb):p:=h a0 a1
theorem u_:P1 Tryz.prog 35 v5:=by
 have hG:=mG (cp tE (cn [.sl .aow] lg W2)) (co Lp W2);refine fE hG Tryz.f35 (az λO=>(bM λV=>(az λf=>(am (λW=>?_)))));dsimp only[an]at W;unfold iH at W;refine⟨nbl rfl,(λid st=>bif Nat.beq id 0 then some (LC (ρ:=Empty) (σ:=List ((Int×Int)×Bool)×List M1) (lk 6 st.t=.v (.slice none 0 0)/\lk 7 st.t=.ptr 2 0/\lk 8 st.t=.ptr 3 0/\lk 9 st.t=.ptr 5 0/\lk 10 st.t=.ptr 6 0/\lk 19 st.t=.fn 135 [] [.ep [.rs .aow V] 0]/\st.h=[.cells (cellsOf .G2 O),.cells (cellsOf .fault f),.cells [.rs .reach O.d.reaches],.cells [.fn 77 [] [.ptr 1 0,.ptr 2 0]],.mp .aok .bool ([]) none,.cells [.os 4],.cells [.v (.slice none 0 0)]]/\cm V ((aH V).map vZ)/\okL (b8 O V f) (fo O V f) (aH V) ([],[])) (cB (b8 O V f) (aH V) ([],[])) (λx=>x.elim) (λx=>x.elim) (λE=>⟨[(6,.v (.slice none 0 0)),(7,.ptr 2 0),(8,.ptr 3 0),(9,.ptr 5 0),(10,.ptr 6 0)],[.dead,.cells (cellsOf .fault f),.cells [.rs .reach O.d.reaches],.cells [.fn 77 [] [.ptr 1 0,.ptr 2 0]],.mp .aok .bool E.1 none,.cells [.os 4],.cells [.os 8],.dead,.row .aow E.2]⟩))else none),?_,?_⟩
 ·unfold ae Tryz.f35;simp only[ak,true_and,and_true]
  ·refine zl mixed aJ hG (by decide) (by decide) kr kr λst lc hC W=>?_;simp only[go_sem,Nat.reduceBEq,ak3]at hC;subst hC;obtain⟨t,h⟩:=st;dsimp only[LC]at W;obtain⟨e0_0,e0_1,e0_2,e0_3,e0_4,e0_5,rfl,hb0,X⟩:=W;refine⟨⟨t,[.cells (cellsOf .G2 O),.cells (cellsOf .fault f),.cells [.rs .reach O.d.reaches],.cells [.fn 77 [] [.ptr 1 0,.ptr 2 0]],.mp .aok .bool ([]) none,.cells [.os 4],.cells [.os 7],.row .aow ([])]⟩,aph.cell (h:=[.cells (cellsOf .G2 O),.cells (cellsOf .fault f),.cells [.rs .reach O.d.reaches],.cells [.fn 77 [] [.ptr 1 0,.ptr 2 0]],.mp .aok .bool ([]) none,.cells [.os 4],.cells [.v (.slice none 0 0)]]) (i:=6) (j:=0) (.row .aow ([])) (aph.refl _) rfl rfl (.inl ⟨_,rfl⟩),135,[.ep [.rs .aow V] 0],Int×M1,_,_,(aH V),vZ,(b8 O V f),(fo O V f),_,([],[]),_,_,_,[(6,.v (.slice none 0 0)),(7,.ptr 2 0),(8,.ptr 3 0),(9,.ptr 5 0),(10,.ptr 6 0)],(λE=>[.dead,.cells (cellsOf .fault f),.cells [.rs .reach O.d.reaches],.cells [.fn 77 [] [.ptr 1 0,.ptr 2 0]],.mp .aok .bool E.1 none,.cells [.os 4],.cells [.os 8],.dead,.row .aow E.2]),(λx=>x.elim),[0,1,2,3,4,5,6,7,7],?_,rfl,X,nbl rfl,?_,kz V _ hb0,λz_0 E Y=>⟨rfl,L0,λl=>?_,λl=>?_,?_⟩,λE=>?_,λy=>?_⟩;exact ahU
   ·simp only[go_sem,sH,jY,alp,ame,ak_,ali,alM,e0_0,e0_1,e0_2,e0_3,e0_4,e0_5];all_goals (first|done|decide|(repeat' (first|refine And.intro ?_ ?_|rfl|decide)))
   simp only[ak,and_self,true_and,and_true];simp only[ak,and_self,true_and,and_true];unfold fo at Y;exact ahV (jl [0,1,2,3,4,5,6,7,11]) (jl [0,1,2,3,4,5,6,7,8]);exact qW (jl [0,1,2,3,4,5,6,7,11]) (jl [0,1,2,3,4,5,6,7,8]);exact qW (jl [0,1,2,3,4,5,6,7,11]) (jl [0,1,2,3,4,5,6,7,8])
 unfold ae Tryz.f35;try unfold b9
 exact zq2
end Go.Sx
end
section
namespace Go.Sx
theorem arT {p:Prop}(h:p:=by(first|done|(repeat' (first|with_reducible refine And.intro ?_ ?_|with_reducible intro _)) <;>(first|done|with_reducible assumption|(exfalso;simp_all only[ne_eq];done) |exact cl))):p:=h
end Go.Sx
end
section
namespace Go.Sx
open Go.Proofs
open IntKind (i64)
@[go_sem] def zI:List SV->Option Con:=pR .int λl=>pE (.det (l.length*8<=d8) (.nw .int l))
theorem yC:P1 Tryz.prog 33 zI:=by
 refine fW (mG W2 W2) Tryz.f33 [(.tmp 2,.int)] (bM λl=>am λE=>?_);dsimp only[an]at E;refine⟨nbl rfl,L0,ag _,?_⟩;unfold ae Tryz.f33;simp only[go_sem];intro b O;refine⟨λh=>?_,λ_=>?_⟩;have V:=O h;subst V;rfl;first|exact E|exact⟨E,λ_=>rfl⟩
@[go_sem] def dO (a0:ah)(a1:List bn)(a2:Int)(a3:Int)(a4:Int)(z_0:List Int)(x4:Unit):(ByteArray×Int×Int×Int×List Reach×List apE×List ap1×List aoU×List ap8×List ap7×List Claim×List Int)⊕Unit:=letI q0:=da ((aI a0 a1 a2 a3 a4).1) z_0;(bif(!(bv a0 (q0.c)).2.1)then .inl (q0.d.name,q0.d.hours,q0.d.aoE.cap,q0.d.aoE.start,q0.d.reaches,q0.d.zs,q0.d.aoK,q0.d.ai,q0.d.aoF,q0.d.apf,q0.c,z_0)else .inr ())
def kM (a0:ah)(a1:List bn)(a2:Int)(a3:Int)(a4:Int)(z_0:List Int)(x4:Unit):Prop:=letI q0:=(aI a0 a1 a2 a3 a4).1;letI q1:=(da q0 z_0).c;((jv q0 z_0)/\((iO a0 q1)/\((!(bv a0 q1).2.1)=true->(z_0.length*8<=d8))))
def cS (a0:ah)(a1:List bn)(a2:Int)(a3:Int)(a4:Int):aoz×Bool×Int:=letI q0:=aI a0 a1 a2 a3 a4;(bif(q0.2 !=0)then(({ ai:=[],kind:=0,reach:=0,hour:=0,Y1:=[]}:aoz),false,q0.2)else(bif(bv a0 ((q0.1).c)).2.1 then(({ ai:=[],kind:=0,reach:=0,hour:=0,Y1:=[]}:aoz),false,0)else(match cB (dO a0 a1 a2 a3 a4) (eC (av (q0.1))) ()with| .inl u0=>(({ ai:=u0.2.2.2.2.2.2.2.2.2.2.2,kind:=((bG a0 u0.2.2.2.2.2.2.2.2.2.2.1).1).kind,reach:=((bG a0 u0.2.2.2.2.2.2.2.2.2.2.1).1).index,hour:=((bG a0 u0.2.2.2.2.2.2.2.2.2.2.1).1).hour,Y1:=(b9 ({ d:=({ name:=u0.1,hours:=u0.2.1,aoE:=({ cap:=u0.2.2.1,start:=u0.2.2.2.1}:apK),reaches:=u0.2.2.2.2.1,zs:=u0.2.2.2.2.2.1,aoK:=u0.2.2.2.2.2.2.1,ai:=u0.2.2.2.2.2.2.2.1,aoF:=u0.2.2.2.2.2.2.2.2.1,apf:=u0.2.2.2.2.2.2.2.2.2.1}:ah),c:=u0.2.2.2.2.2.2.2.2.2.2.1}:C1) (aY ({ d:=({ name:=u0.1,hours:=u0.2.1,aoE:=({ cap:=u0.2.2.1,start:=u0.2.2.2.1}:apK),reaches:=u0.2.2.2.2.1,zs:=u0.2.2.2.2.2.1,aoK:=u0.2.2.2.2.2.2.1,ai:=u0.2.2.2.2.2.2.2.1,aoF:=u0.2.2.2.2.2.2.2.2.1,apf:=u0.2.2.2.2.2.2.2.2.2.1}:ah),c:=u0.2.2.2.2.2.2.2.2.2.2.1}:C1)) ((bG a0 u0.2.2.2.2.2.2.2.2.2.2.1).1))}:aoz),true,0) | .inr x4=>default)))
def mK (a0:ah)(a1:List bn)(a2:Int)(a3:Int)(a4:Int):Prop:=letI q2:=dO a0 a1 a2 a3 a4;letI q3:=aI a0 a1 a2 a3 a4;letI q0:=q3.1;letI q4:=av q0;letI q1:=eC q4;((ny a0 a1 a2 a3 a4)/\((q3.2 !=0)=false->((iO a0 (q0.c))/\((bv a0 (q0.c)).2.1=false->((fB q0)/\((kL q4 (q1.map WY))/\okL q2 (kM a0 a1 a2 a3 a4) q1 ()/\(∀ z_,cB q2 q1 ()≠ .inr z_)/\(∀ u0,cB q2 q1 ()=.inl u0->((lp a0 u0.2.2.2.2.2.2.2.2.2.2.1)/\((io ({ d:=({ name:=u0.1,hours:=u0.2.1,aoE:=({ cap:=u0.2.2.1,start:=u0.2.2.2.1}:apK),reaches:=u0.2.2.2.2.1,zs:=u0.2.2.2.2.2.1,aoK:=u0.2.2.2.2.2.2.1,ai:=u0.2.2.2.2.2.2.2.1,aoF:=u0.2.2.2.2.2.2.2.2.1,apf:=u0.2.2.2.2.2.2.2.2.2.1}:ah),c:=u0.2.2.2.2.2.2.2.2.2.2.1}:C1))/\(iH ({ d:=({ name:=u0.1,hours:=u0.2.1,aoE:=({ cap:=u0.2.2.1,start:=u0.2.2.2.1}:apK),reaches:=u0.2.2.2.2.1,zs:=u0.2.2.2.2.2.1,aoK:=u0.2.2.2.2.2.2.1,ai:=u0.2.2.2.2.2.2.2.1,aoF:=u0.2.2.2.2.2.2.2.2.1,apf:=u0.2.2.2.2.2.2.2.2.2.1}:ah),c:=u0.2.2.2.2.2.2.2.2.2.2.1}:C1) (aY ({ d:=({ name:=u0.1,hours:=u0.2.1,aoE:=({ cap:=u0.2.2.1,start:=u0.2.2.2.1}:apK),reaches:=u0.2.2.2.2.1,zs:=u0.2.2.2.2.2.1,aoK:=u0.2.2.2.2.2.2.1,ai:=u0.2.2.2.2.2.2.2.1,aoF:=u0.2.2.2.2.2.2.2.2.1,apf:=u0.2.2.2.2.2.2.2.2.2.1}:ah),c:=u0.2.2.2.2.2.2.2.2.2.2.1}:C1)) ((bG a0 u0.2.2.2.2.2.2.2.2.2.2.1).1)))))))))))
@[go_sem] def Lq:List SV->Option Con:=(pD .al λa0=>(pR .B1 λa1=>(pI λa2=>(pI λa3=>(pI λa4=>(pE (.det (mK a0 a1 a2 a3 a4) (.tup [.agg [.nw .int (((cS a0 a1 a2 a3 a4).1).ai),.v (.int .i64 (((cS a0 a1 a2 a3 a4).1).kind)),.v (.int .i64 (((cS a0 a1 a2 a3 a4).1).reach)),.v (.int .i64 (((cS a0 a1 a2 a3 a4).1).hour)),.nw .aow (((cS a0 a1 a2 a3 a4).1).Y1)],.v (.bool ((cS a0 a1 a2 a3 a4).2.1)),.v (.int .i64 ((cS a0 a1 a2 a3 a4).2.2))]))))))))
variable {p:Prop}
theorem ahW(h:p:=by simp only[go_sem,e0_0,e0_1,e0_2,e0_3,e0_4,e0_5,e0_6]):p:=h
theorem ahX{l0 l1:List Nat}(a0:JL l0)(a1:JL l1)(h:JL l0->JL l1->p:=by intro ja jb;simp only[go_sem,dO,psT,WY,alr,ak_];all_goals exact gw ja jb):p:=h a0 a1
theorem ahY(h:p:=by simp only[go_sem];all_goals exact arT):p:=h
theorem yY:P1 Tryz.prog 11 Lq:=by
 have hG:=mG (cn [.st .al,.sl .Q1] t6 (cn [.st .al,.sl .B1,.o,.o,.o] xI (cn [.sl .int] GX (cn [.st .G2] kp (cn [.st .G2,.sl .int] sR (cn [.sl .int] yC (cn [.st .al,.sl .Q1] tu (cn [.st .G2,.sl .aow,.st .fault] u_ (cn [.st .G2] ue W2))))))))) W2;refine fW hG Tryz.f11 [(.cell 10 0,.int),(.cell 10 4,.aow)] (az λa0=>(bM λa1=>(aG λO=>(aG λV=>(aG λW=>(am (λY=>?_)))))));dsimp only[an]at Y;unfold mK at Y;refine⟨nbl rfl,(λid st=>bif Nat.beq id 0 then some (LC (ρ:=ByteArray×Int×Int×Int×List Reach×List apE×List ap1×List aoU×List ap8×List ap7×List Claim×List Int) (σ:=Unit) (lk 5 st.t=.ptr 0 0/\lk 10 st.t=.ptr 1 0/\lk 11 st.t=.v (.bool false)/\lk 12 st.t=.v (.int .i64 ((aI a0 a1 O V W).2))/\lk 13 st.t=.ptr 2 0/\lk 17 st.t=.ptr 3 0/\lk 50 st.t=.fn 69 [] [.ep [.rs .int (av ((aI a0 a1 O V W).1))] 0]/\st.h=[.cells (cellsOf .al a0),.cells [.v (.slice none 0 0),.v (.int .i64 0),.v (.int .i64 0),.v (.int .i64 0),.v (.slice none 0 0)],.cells (cellsOf .G2 ((aI a0 a1 O V W).1)),.cells [.v (.string (ByteArray.mk #[])),.v (.int .i64 0),.v (.int .i64 0),.v (.int .i64 0),.v (.slice none 0 0),.v (.slice none 0 0),.v (.slice none 0 0),.v (.slice none 0 0),.v (.slice none 0 0),.v (.slice none 0 0),.v (.slice none 0 0)]]/\kL (av ((aI a0 a1 O V W).1)) ((eC (av ((aI a0 a1 O V W).1))).map WY)/\okL (dO a0 a1 O V W) (kM a0 a1 O V W) (eC (av ((aI a0 a1 O V W).1))) ()/\(∀ z_,cB (dO a0 a1 O V W) (eC (av ((aI a0 a1 O V W).1))) ()≠ .inr z_)) (cB (dO a0 a1 O V W) (eC (av ((aI a0 a1 O V W).1))) ()) (λ_=>.normal) (λE=>⟨[(5,.ptr 0 0),(10,.ptr 1 0),(11,.v (.bool false)),(12,.v (.int .i64 ((aI a0 a1 O V W).2))),(13,.ptr 2 0),(17,.ptr 3 0)],[.cells (cellsOf .al a0),.cells [.os 5,.v (.int .i64 0),.v (.int .i64 0),.v (.int .i64 0),.v (.slice none 0 0)],.cells (cellsOf .G2 ((aI a0 a1 O V W).1)),.cells [.v (.string E.1),.v (.int .i64 E.2.1),.v (.int .i64 E.2.2.1),.v (.int .i64 E.2.2.2.1),.rs .reach E.2.2.2.2.1,.rs .gl E.2.2.2.2.2.1,.rs .apa E.2.2.2.2.2.2.1,.rs .right E.2.2.2.2.2.2.2.1,.rs .apn E.2.2.2.2.2.2.2.2.1,.rs .aps E.2.2.2.2.2.2.2.2.2.1,.rs .Q1 E.2.2.2.2.2.2.2.2.2.2.1],.dead,.row .int E.2.2.2.2.2.2.2.2.2.2.2]⟩) (λX=>⟨[(5,.ptr 0 0),(10,.ptr 1 0),(11,.v (.bool false)),(12,.v (.int .i64 ((aI a0 a1 O V W).2))),(13,.ptr 2 0),(17,.ptr 3 0)],[.cells (cellsOf .al a0),.cells [.os 5,.v (.int .i64 0),.v (.int .i64 0),.v (.int .i64 0),.v (.slice none 0 0)],.cells (cellsOf .G2 ((aI a0 a1 O V W).1)),.cells [.any,.any,.any,.any,.any,.any,.any,.any,.any,.any,.any],.dead,.row .int ([])]⟩))else none),?_,?_⟩
 ·unfold ae Tryz.f11;simp only[ak,true_and,and_true]
  ·refine zl mixed aJ hG (by decide) (by decide) kr kr λst lc hC Y=>?_;simp only[go_sem,Nat.reduceBEq,ak3]at hC;subst hC;obtain⟨t,h⟩:=st;dsimp only[LC]at Y;obtain⟨e0_0,e0_1,e0_2,e0_3,e0_4,e0_5,e0_6,rfl,hb0,hok0,hno0⟩:=Y;refine⟨⟨t,[.cells (cellsOf .al a0),.cells [.os 4,.v (.int .i64 0),.v (.int .i64 0),.v (.int .i64 0),.v (.slice none 0 0)],.cells (cellsOf .G2 ((aI a0 a1 O V W).1)),.cells [.v (.string (ByteArray.mk #[])),.v (.int .i64 0),.v (.int .i64 0),.v (.int .i64 0),.v (.slice none 0 0),.v (.slice none 0 0),.v (.slice none 0 0),.v (.slice none 0 0),.v (.slice none 0 0),.v (.slice none 0 0),.v (.slice none 0 0)],.row .int ([])]⟩,aph.cell (h:=[.cells (cellsOf .al a0),.cells [.v (.slice none 0 0),.v (.int .i64 0),.v (.int .i64 0),.v (.int .i64 0),.v (.slice none 0 0)],.cells (cellsOf .G2 ((aI a0 a1 O V W).1)),.cells [.v (.string (ByteArray.mk #[])),.v (.int .i64 0),.v (.int .i64 0),.v (.int .i64 0),.v (.slice none 0 0),.v (.slice none 0 0),.v (.slice none 0 0),.v (.slice none 0 0),.v (.slice none 0 0),.v (.slice none 0 0),.v (.slice none 0 0)]]) (i:=1) (j:=0) (.row .int ([])) (aph.refl _) rfl rfl (.inl ⟨_,rfl⟩),69,[.ep [.rs .int (av ((aI a0 a1 O V W).1))] 0],List Int,_,_,(eC (av ((aI a0 a1 O V W).1))),WY,(dO a0 a1 O V W),(kM a0 a1 O V W),_,(),_,_,_,[(5,.ptr 0 0),(10,.ptr 1 0),(11,.v (.bool false)),(12,.v (.int .i64 ((aI a0 a1 O V W).2))),(13,.ptr 2 0),(17,.ptr 3 0)],(λX=>[.cells (cellsOf .al a0),.cells [.os 5,.v (.int .i64 0),.v (.int .i64 0),.v (.int .i64 0),.v (.slice none 0 0)],.cells (cellsOf .G2 ((aI a0 a1 O V W).1)),.cells [.any,.any,.any,.any,.any,.any,.any,.any,.any,.any,.any],.dead,.row .int ([])]),(λE=>[.cells (cellsOf .al a0),.cells [.os 5,.v (.int .i64 0),.v (.int .i64 0),.v (.int .i64 0),.v (.slice none 0 0)],.cells (cellsOf .G2 ((aI a0 a1 O V W).1)),.cells [.v (.string E.1),.v (.int .i64 E.2.1),.v (.int .i64 E.2.2.1),.v (.int .i64 E.2.2.2.1),.rs .reach E.2.2.2.2.1,.rs .gl E.2.2.2.2.2.1,.rs .apa E.2.2.2.2.2.2.1,.rs .right E.2.2.2.2.2.2.2.1,.rs .apn E.2.2.2.2.2.2.2.2.1,.rs .aps E.2.2.2.2.2.2.2.2.2.1,.rs .Q1 E.2.2.2.2.2.2.2.2.2.2.1],.dead,.row .int E.2.2.2.2.2.2.2.2.2.2.2]),[0,1,2,3,4,4],?_,rfl,hok0,nbl rfl,?_,Cq (av ((aI a0 a1 O V W).1)) _ hb0,λz_0 X hq0=>⟨rfl,L0,λl=>?_,λl=>?_,?_⟩,λX=>?_,λy=>?_⟩;exact ahW
   ·simp only[go_sem,sH,jY,alp,ame,ak_,ali,alM,e0_0,e0_1,e0_2,e0_3,e0_4,e0_5,e0_6];all_goals (first|done|decide|(repeat' (first|refine And.intro ?_ ?_|rfl|decide)))
   simp only[ak,and_self,true_and,and_true];simp only[ak,and_self,true_and,and_true];unfold kM at hq0;exact ahX (jl [0,1,2,3,4,6]) (jl [0,1,2,3,4,5]);exact qW (jl [0,1,2,3,4,6]) (jl [0,1,2,3,4,5]);exact qW (jl [0,1,2,3,4,6]) (jl [0,1,2,3,4,5])
 unfold ae Tryz.f11;try unfold cS
 exact ahY
theorem Cy (d:ah)(l:List bn)(fr to k:Int):(aB d l fr to k).1.length<=4096:=by
 rw[(GA d l fr to k).2];grind [lim]
theorem RH {α:Type}{step:Nat->List α->Empty⊕List α}{p:Nat->List α->Prop}(f:Nat->α)(h:∀ k s,step k s=.inr (s++[f k])):∀ (n i:Nat) (s:List α),s.length=i->(∀ k s,k<i+n->s.length=k->p k s)->okI step p n i s
 |0,_,_,_,_=>trivial
 |n+1,i,s,hs,hp=>⟨hp i s (by omega) hs,λs' e=>RH f h n (i+1) s' (by grind) λk s h1 h2=>hp k s (by omega) h2⟩
theorem zJ (s:C1)(h:s.c.length<=4096):fB s:=λ_=>
 RH (λk=>(s.c.getD k (default:Claim)).right) (λ_ _=>rfl) _ _ _ rfl λk t h1 h2=>by
  grind [gI,d8]
def aaw (d:ah)(l:List bn)(fr to k:Int):ny d l fr to k:=
 ⟨(GA d l fr to k).1,λ_=>⟨GV d _,λ_=>zJ _ (Cy d l fr to k)⟩⟩
theorem Cz (d:ah)(c:List Claim):(bG d c).2.2=0↔apP d c/\(aO d (ay c)).2.2=0:=by
 unfold bG bU;by_cases E:apP d c
 rw[u7 E];grind
 have h1:(a9 d c).2≠0:=λq=>E (Cp.1 q);grind
structure Opn (d:ah)(l:List bn)(fr to k:Int):Prop where
 err:(aB d l fr to k).2=0
 ask:apP d (aB d l fr to k).1
 plan:(aO d (ay (aB d l fr to k).1)).2.2=0
 ten:((av { d:=d,c:=(aB d l fr to k).1}).length:Int)<=10
theorem Lr (d:ah)(l:List bn)(fr to k:Int):(aI d l fr to k).2=0↔Opn d l fr to k:=by
 have V:=Cz d (aB d l fr to k).1;unfold aI;by_cases h1:(aB d l fr to k).2=0
 by_cases h2:(bG d (aB d l fr to k).1).2.2=0
 by_cases X:((av { d:=d,c:=(aB d l fr to k).1}).length:Int)<=10
 have E:decide (((av { d:=d,c:=(aB d l fr to k).1}).length:Int) > 10)=false:=by simp;omega
 simp only[h1,h2,E,bne_self_eq_false,cond_false];exact⟨λ_=>⟨h1,(V.1 h2).1,(V.1 h2).2,X⟩,λ_=>trivial⟩;have E:decide (((av { d:=d,c:=(aB d l fr to k).1}).length:Int) > 10)=true:=by simp;omega
 simp only[h1,h2,E,bne_self_eq_false,cond_false,cond_true];exact⟨λh=>(by cases h),λh=>absurd h.ten X⟩;have O:((bG d (aB d l fr to k).1).2.2 !=0)=true:=by grind
 simp only[h1,O,bne_self_eq_false,cond_false,cond_true];exact⟨λh=>absurd h h2,λh=>absurd (V.2 ⟨h.ask,h.plan⟩) h2⟩;have W:((aB d l fr to k).2 !=0)=true:=by grind
 simp only[W,cond_true];exact⟨λh=>absurd h h1,λh=>absurd h.err h1⟩
variable {d:ah}
theorem xJ{l:List bn}{fr to k:Int}(h:Opn d l fr to k):aI d l fr to k=({ d:=d,c:=(aB d l fr to k).1},0):=by
 have h2:=(Cz d (aB d l fr to k).1).2 ⟨h.ask,h.plan⟩;have E:decide (((av { d:=d,c:=(aB d l fr to k).1}).length:Int) > 10)=false:=by have:=h.ten;simp;omega
 unfold aI;simp only[h.err,h2,E,bne_self_eq_false,cond_false]
theorem G4{c:List Claim}(h:apP d c):∀ x∈c,0<=x.gl/\x.gl< (d.zs.length:Int):=λx E=>by
 have:=((kv d c).1 h.chk).2.2.1 x E;grind [okC]
theorem N3 {s:C1}(h:∀ x∈s.c,0<=x.gl/\x.gl< (s.d.zs.length:Int)):gB s:=λ_=>
 g8 _ _ _ λj t _ E=>by
  grind [gM]
theorem Jo {ρ σ:Type}{step:Nat->σ->ρ⊕σ}:∀ (n i:Nat) (s:σ) {r:σ},aj step n i s=.inr r->∀ j,i<=j->j<i+n->∃ t t',step j t=.inr t'
 |0,_,_,_,_,j,h1,h2=>by omega
 |n+1,i,s,r,h,j,h1,h2=>by
  rw[aj]at h;cases e:step i s with
  |inl x=>grind
  |inr s'=>
   rw[e]at h;by_cases E:j=i
   grind
   exact Jo n (i+1) s' h j (by omega) (by omega)
theorem v6 (n lo hi:Int):ct n lo hi=true↔lo<=n/\n<=hi:=by
 unfold ct;simp
theorem adg {s:C1}(h:∀ x∈s.c,0<=x.gl/\x.gl< (s.d.zs.length:Int))(V:s.d.reaches.length<=64)(l:List M1):jU s l:=by
 have hw:∀ n:Int,ct n 0 (i64.wrap ((s.d.reaches.length:Int) - 1))=true->0<=n/\n< (s.d.reaches.length:Int):=λn h=>by
  grind [v6,aA]
 refine⟨N3 h,λ_=>⟨g8 _ _ _ λj t _ E=>?_,λt O _=>g8 _ _ _ λj u _ E=>?_⟩⟩;grind [iF]
 obtain⟨v,W,e⟩:=Jo _ _ _ O j (alB _) E;grind [iG,dJ]
theorem A9 (d:ah)(l:List bn)(fr to k:Int)(r:aoz):gZ d l fr to k r:=by
 refine⟨aaw d l fr to k,λh0=>?_⟩;have E:=(Lr d l fr to k).1 (by grind);have hc:=Cy d l fr to k;have hr:=A3 E.ask.chk;have V:d.reaches.length<=64:=by
  have:=((qT d).1 ((kv d _).1 E.ask.chk).1).1;omega
 rw[xJ E];refine⟨zJ _ hc,λW=>⟨g8 _ _ _ λj t _ hj=>?_,λs X=>?_⟩⟩;grind [lr,aN,aA]
 obtain⟨h1,h2⟩:=vN { d:=d,c:=(aB d l fr to k).1} r.ai hc;refine⟨h1,?_⟩;rw[h2];refine⟨adg (λx O=>G4 E.ask x ((amC.1 O).1)) V _,λY=>?_⟩;grind [v6,aA]
theorem Ls {α:Type}{step:Nat->List α->Empty⊕List α}(f:Nat->List α)(h:∀ k s,step k s=.inr (s++f k)):∀ n i s,aj step n i s=.inr (s++(List.range' i n).flatMap f)
 |0,i,s=>by simp[aj]
 |n+1,i,s=>by
  rw[aj,h];dsimp only;rw[Ls f h n (i+1),amv,alp,alG]
theorem W5 {α:Type}{step:Nat->List α->Empty⊕List α}{p:Nat->List α->Prop}(f:Nat->List α)(h:∀ k s,step k s=.inr (s++f k)):∀ n i s,(∀ j,j<n->p (i+j) (s++(List.range' i j).flatMap f))->okI step p n i s
 |0,_,_,_=>trivial
 |n+1,i,s,hp=>by
  refine⟨by simpa using hp 0 (by omega),λs' e=>?_⟩;rw[h]at e;cases e;refine W5 f h n (i+1) _ λj E=>?_;grind [List.range'_succ]
def A_ (l:List Int):List (List Int):=(List.range' 0 (l.length+1)).flatMap λn=>chz n [] l
variable {l:List Int}
theorem Lt(h:l.length<=900):eC l=A_ l:=by
 unfold eC;rw[aA (by omega) (by omega),Ls (step:=ka l) (λn=>chz n [] l) λ_ _=>rfl];rfl
theorem adh(h:l.length<=900):kL l ((eC l).map WY):=by
 intro _;rw[Lt h,aA (by omega) (by omega),show(((l.length:Int)+1).toNat)=l.length+1 by omega];refine⟨by omega,W5 (λn=>chz n [] l) (λ_ _=>rfl) _ _ _ λj O=>?_,λs E=>?_⟩;unfold ky chP;rw[ak_,ak8];refine⟨by grind,by grind,λi y hy=>?_⟩;have e:A_ l=(List.range' 0 j).flatMap (λn=>chz n [] l)++(chz j [] l++(List.range' (j+1) (l.length - j)).flatMap λn=>chz n [] l):=by
  unfold A_;rw[show l.length+1=j+(l.length - j+1) by omega,<-List.range'_append_1,ann,amv,alp,ak8]
 rw[al1,e,amV (by grind)];simp only[anP];rw[amZ (ak4.1 hy).1,hy];rfl;rw[Ls (step:=ka l) (λn=>chz n [] l) λ_ _=>rfl]at E;cases E;rw[alY];rfl
theorem Lu:∀ (n:Nat) (s l:List Int) (z:List Int),z∈chz n s l->z.length=s.length+n
 |0,s,l,z,h=>by grind [A4]
 |n+1,s,[],z,h=>by simp[chz]at h
 |n+1,s,x::l,z,h=>by
  simp only[chz]at h;split at h
  cases h;rw[alu]at h;rcases h with h|h;rw[Lu n _ _ _ h];simp;omega;exact Lu (n+1) _ _ _ h
theorem To{z:List Int}(h:z∈A_ l):z.length<=l.length:=by
 grind [A_,Lu,List.length_nil]
def nA (l:List M1):List (Int×M1):=(List.range l.length).map λk=>(((l.length - 1 - k:Nat):Int),l.getD (l.length - 1 - k) default)
theorem N4 {l:List M1}(h:l.length<=aN):∀ m k,m+k=l.length+1->okI (aP l) (b7 l ((nA l).map vZ)) m k ((nA l).take k,(l.length:Int) - 1 - k)/\aj (aP l) m k ((nA l).take k,(l.length:Int) - 1 - k)=.inl (nA l)\/l.length<k
 |0,k,hk=>.inr (by omega)
 |m+1,k,hk=>by
  have hB:(nA l).length=l.length:=by unfold nA;simp
  by_cases hn:k<l.length
  unfold aN at h;have O:decide (((l.length:Int) - 1 - k)>=0)=true:=by simp;omega
  have Y:((l.length:Int) - 1 - k).toNat=l.length - 1 - k:=by omega
  have V:(nA l)[k]? =some ((l.length:Int) - 1 - k,l.getD (l.length - 1 - k) default):=by
   grind [nA]
  have e4:(nA l).take (k+1)=(nA l).take k++[((l.length:Int) - 1 - k,l.getD (l.length - 1 - k) default)]:=by
   rw[List.take_add_one,V];rfl
  have X:i64.wrap ((l.length:Int) - 1 - k - 1)=(l.length:Int) - 1 - ((k+1:Nat):Int):=by
   grind [aA]
  have E:aP l k ((nA l).take k,(l.length:Int) - 1 - k)=.inr ((nA l).take (k+1),(l.length:Int) - 1 - ((k+1:Nat):Int)):=by
   simp_all [aP]
  rcases N4 h m (k+1) (by omega)with⟨h1,h2⟩ |hx;refine .inl ⟨⟨?_,λs' e=>?_⟩,?_⟩;grind [b7]
  grind
  grind [aj]
  omega;by_cases W:k=l.length
  subst W;have O:decide (((l.length:Int) - 1 - (l.length:Int))>=0)=false:=by simp;omega
  have E:aP l l.length ((nA l).take l.length,(l.length:Int) - 1 - (l.length:Int))=.inl (nA l):=by
   unfold aP;grind
  refine .inl ⟨⟨λq=>?_,λs' e=>?_⟩,?_⟩;grind
  grind
  rw[aj,E];omega
variable {l:List M1}
theorem RI(h:l.length<=4611686):aH l=nA l/\cm l ((aH l).map vZ):=by
 have E:(nA l).length=l.length:=by unfold nA;simp
 have key:=N4 (l:=l) (by unfold aN;omega) (l.length+1) 0 rfl;rw[ana,show((l.length:Int) - 1 - ((0:Nat):Int))=(l.length:Int) - 1 by omega]at key;rcases key with⟨h1,h2⟩ |hx;have e:aH l=nA l:=by
  grind [aH,aA]
 refine⟨e,λ_=>?_⟩;grind [aA]
 omega
def plI (R:Nat)(a b:Int)(B:Nat)(l:List M1):Prop:=l.Pairwise plt/\(∀ x∈l,(a<x.reach\/x.reach=a/\x.hour<b)/\0<=x.reach/\x.reach< (R:Int))/\l.length<=B
theorem Zo{R:Nat}{a b:Int}{B:Nat}{x:M1}(h:plI R a b B l)(h1:x.reach=a)(h2:x.hour=b)(V:0<=a)(E:a< (R:Int)):plI R a (b+1) (B+1) (l++[x]):=by
 obtain⟨p,q,n⟩:=h;refine⟨aln.2 ⟨p,by simp,λy hy z O=>?_⟩,λy hy=>?_,by grind⟩;grind [plt,mD]
 grind
theorem W6{R:Nat}{a b:Int}{B:Nat}(h:plI R a b B l){O:Int}{E:Nat}(X:b<=O)(V:B<=E):plI R a O E l:=
 ⟨h.1,λx W=>by have:=h.2.1 x W;omega,ald h.2.2 V⟩
theorem Qe {s:C1}{t:List M1×List ((Int×Int)×Int)×List ((Int×Int)×Bool)×Int}{k:Nat}{u v:List M1×List ((Int×Int)×Int)×List ((Int×Int)×Bool)}(h:aW s t k u=.inr v):v.1=u.1\/∃ x:M1,v.1=u.1++[x]/\x.reach=t.2.2.2/\x.hour=i64.wrap ((k:Int) - (s.d.reaches.getD t.2.2.2.toNat default).delay):=by
 grind [aW]
theorem W7 {s:C1}(hr:aoL s.d)(hw:(s.d.reaches.length:Int)*s.d.hours<=1024)(hf:∀ x∈s.c,0<=x.gl/\x.gl< (s.d.zs.length:Int)):io s/\plI s.d.reaches.length (-1) 0 1024 (aY s):=by
 have h1:=hr.one;have h64:=hr.reaches;have hH1:=hr.apz;have hH:=hr.hours;have hm:s.d.reaches.length*s.d.hours.toNat<=1024:=by
  grind
 have key:=yw (step:=dm s) (p:=fg s) (λt:List M1×List ((Int×Int)×Int)×List ((Int×Int)×Bool)×Int=>(t.2.2.2+1).toNat) (λt=>∃ i:Nat,t.2.2.2=(i:Int) - 1/\i<=s.d.reaches.length/\plI s.d.reaches.length t.2.2.2 (s.d.hours+1) ((s.d.reaches.length - i)*s.d.hours.toNat) t.1/\∀ x∈t.1,t.2.2.2<x.reach) (plI s.d.reaches.length (-1) 0 1024) (λk t ⟨i,hi,hin,O,hl⟩ =>?_) (s.d.reaches.length+1) 0 ([],bD s,[],i64.wrap ((s.d.reaches.length:Int) - 1)) ⟨s.d.reaches.length,by grind [aA],ak2 _,⟨List.Pairwise.nil,λx E=>(by cases E),alB _⟩,λx E=>(by cases E)⟩ (by grind [aA]);obtain⟨k1,r,k2,k3⟩:=key;refine⟨⟨N3 hf,λ_=>⟨k1,λz hz=>by grind⟩⟩,?_⟩;grind [aY]
 unfold fg dm;rw[hi];cases i with
 |zero=>
  refine⟨λh=>by simp at h,.inl ⟨t.1,rfl,?_⟩⟩;refine⟨O.1,λx E=>?_,ald O.2.2 (by omega)⟩;have:=O.2.1 x E;omega
 |succ i=>
  have e0:decide ((((i+1:Nat):Int) - 1)>=0)=true:=decide_eq_true (by omega);have hd:=(KI _ _).1 (hr.reach i (by omega));have hJ:∀ (j:Nat) (u:List M1×List ((Int×Int)×Int)×List ((Int×Int)×Bool)),0<=j->j<0+s.d.hours.toNat->plI s.d.reaches.length (i:Int) ((j:Int) - (s.d.reaches.getD i default).delay) ((s.d.reaches.length - (i+1))*s.d.hours.toNat+j) u.1->gc s t j u/\∀ v,aW s t j u=.inr v->plI s.d.reaches.length (i:Int) (((j+1:Nat):Int) - (s.d.reaches.getD i default).delay) ((s.d.reaches.length - (i+1))*s.d.hours.toNat+(j+1)) v.1:=λj u _ hj h=>by
   have Y:(s.d.reaches.length - (i+1))*s.d.hours.toNat+(j+1)<=1024:=by
    have:(s.d.reaches.length - (i+1)+1)*s.d.hours.toNat<=s.d.reaches.length*s.d.hours.toNat:=alg _ (by omega);grind
   refine⟨λ_ _=>⟨La _ _,λ_=>?_⟩,λv V=>?_⟩;have:=h.2.2;grind [d8]
   rcases Qe V with e| ⟨x,e,X,W⟩;rw[e];exact W6 h (by omega) (by omega);rw[e];rw[hi]at X W;rw[show(((i+1:Nat):Int) - 1)=(i:Int) by omega]at X W;rw[ak1,aA (by omega) (by omega)]at W;rw[show(((j+1:Nat):Int) - (s.d.reaches.getD i default).delay)=((j:Int) - (s.d.reaches.getD i default).delay)+1 by omega];exact Zo h X W (by omega) (by omega)
  have h0:plI s.d.reaches.length (i:Int) (((0:Nat):Int) - (s.d.reaches.getD i default).delay) ((s.d.reaches.length - (i+1))*s.d.hours.toNat+0) t.1:=⟨O.1,λx E=>by
   have:=hl x E;have:=(O.2.1 x E).2;omega,O.2.2⟩
  refine⟨λ_=>⟨by omega,by omega,jS (λj u=>plI s.d.reaches.length (i:Int) ((j:Int) - (s.d.reaches.getD i default).delay) ((s.d.reaches.length - (i+1))*s.d.hours.toNat+j) u.1) _ _ (t.1,t.2.1,t.2.2.1) h0 hJ⟩,.inr ?_⟩;rw[e0,cond_true];cases q:aj (aW s t) s.d.hours.toNat 0 (t.1,t.2.1,t.2.2.1)with
  |inl x=>exact x.elim
  |inr v=>
   have V:=uI (λj (u:List M1×List ((Int×Int)×Int)×List ((Int×Int)×Bool)) =>plI s.d.reaches.length (i:Int) ((j:Int) - (s.d.reaches.getD i default).delay) ((s.d.reaches.length - (i+1))*s.d.hours.toNat+j) u.1) _ _ _ h0 (λj u a b c=>(hJ j u a b c).2) v q;have ew:i64.wrap (((i+1:Nat):Int) - 1 - 1)=(i:Int) - 1:=by grind [aA]
   simp only[ew];refine⟨_,rfl,by grind,i,rfl,by omega,⟨V.1,λx E=>?_,?_⟩,λx E=>?_⟩;have:=V.2.1 x E;grind;refine ald V.2.2 (Nat.le_of_eq ?_);rw[show s.d.reaches.length - i=s.d.reaches.length - (i+1)+1 by omega,anx];omega;have:=V.2.1 x E;grind
theorem Jp (l:List M1):(nA l).map (·.2)=l.reverse:=by
 unfold nA;refine anM (by simp) λk h1 h2=>?_;grind
def blJ (R:Nat)(L:List (Int×M1))(t:List ((Int×Int)×Bool)×List M1):Prop:=(t.2++L.map (·.2)).Pairwise (λx y=>plt y x)/\(∀ y∈t.2++L.map (·.2),0<=y.reach/\y.reach< (R:Int))/\(t.2++L.map (·.2)).length<=1024
theorem Qf{s:C1}{f:T1}(h:plI s.d.reaches.length (-1) 0 1024 l):iH s l f:=by
 obtain⟨W,Y⟩:=RI (l:=l) (by have:=h.2.2;omega);have V:blJ s.d.reaches.length (aH l) ([],[]):=by
  unfold blJ;rw[W,ak_,Jp];exact⟨an2.2 h.1,λx E=>(h.2.1 x (List.mem_reverse.1 E)).2,by rw[List.length_reverse];exact h.2.2⟩
 have O:∀ x L t,blJ s.d.reaches.length (x::L) t->fo s l f x t/\∀ t',b8 s l f x t=.inr t'->blJ s.d.reaches.length L t':=λx L t ⟨g1,g2,g3⟩ =>by
  have E:=g2 x.2 (by simp);have hl:t.2.length<1024:=by grind
  refine⟨⟨λ_=>⟨λ_ _=>E,λ_ _=>E⟩,λ_=>E,λ_=>⟨E,by grind [d8]⟩⟩,λt' e=>?_⟩;grind [b8,blJ]
 refine⟨Y,Lc _ O _ _ V,λt X=>?_⟩;have:=((AT _ (λx L t h=>(O x L t h).2) _ _ V).1 t X).1;rw[alM,ali]at this;exact(zu zH (List.reverse_perm _).symm ((an2.2 this).imp λh=>(Cw _ _).2 h)).1
theorem Qg (a b:Claim):oW a b=decide (c5 a b<0):=by
 rw[alZ,decide_eq_true_eq,AH];unfold oW;simp only[rZ,mD,and_false,or_false];grind
theorem aax {α:Type}(P:α->Bool)(d:α):∀ (l:List α) (n:Nat),n<=l.length->(∀ i,i<n->P (l.getD i d)=true)->(n<l.length->P (l.getD n d)=false)->l.takeWhile P=l.take n/\l.dropWhile P=l.drop n
 | [],n,h,_,_=>by simp
 |x::l,0,_,_,h2=>by
  simp_all
 |x::l,n+1,h,h1,h2=>by
  have:=h1 0 (by omega);rw[ano]at this;rw[ak5]at h h2;obtain⟨a,b⟩:=aax P d l n (by omega) (λi hi=>by grind) (λhn=>by grind);simp_all
theorem W8 (l:List Claim)(x:Claim)(hl:l.length<=153600):tY l x/\qe l x=ud l x:=by
 obtain⟨a,r,b,⟨c1,c2⟩,W,V⟩:=yw (step:=oX l x) (p:=oY l x) (λs=>l.length - s.toNat) (λs=>(0<=s/\s<=(l.length:Int))/\∀ i:Nat,(i:Int) <s->decide (c5 (l.getD i default) x<0)=true)
  (λr=>(0<=r/\r<=(l.length:Int))/\(∀ i:Nat,(i:Int) <r->decide (c5 (l.getD i default) x<0)=true)/\(r< (l.length:Int)->decide (c5 (l.getD r.toNat default) x<0)=false)) (λk s O=>by
   obtain⟨⟨X,h1⟩,h2⟩:=O;refine⟨λ_ h=>⟨X,of_decide_eq_true h⟩,?_⟩;unfold oX;rw[Qg];by_cases E:s< (l.length:Int)
   rw[decide_eq_true E,amg];cases hq:decide (c5 (l.getD s.toNat default) x<0)with
   |true=>
    refine .inr ⟨_,rfl,?_⟩;grind [aA]
   |false=>grind
   grind) 200000 0 0 ⟨⟨alJ _,by omega⟩,λi hi=>by omega⟩ (by omega)
 obtain⟨Y,t2⟩:=aax (λy=>decide (c5 y x<0)) default l r.toNat (by omega) (λi hi=>W i (by omega)) (λhn=>V (by omega));have tk:l.take (Int.toNat (l.length:Int))=l:=by grind
 refine⟨⟨a,(λz hz=>by grind),λy hy=>?_⟩,?_⟩;rw[b]at hy;cases hy;grind [d8]
 grind [qe,ud]
theorem W9 (l:List Claim)(x:Claim):(ud l x).length=l.length+1:=by rw[(Jc l x).length_eq,ak5]
theorem N5:∀ (r s:List Claim),(r.foldl ud s).length=s.length+r.length
 | [],s=>by simp
 |x::r,s=>by rw[anW,N5 r,W9,ak5];omega
variable {h:Int}
theorem Zp{x:aoU}(E:aql d x)(V:x.kind=1)(O:0<=h)(h1:h<4096):qc x h=Wn x h:=by
 have:=Cb E O h1;unfold qc;grind
theorem G5 (d:ah)(l:List bn)(h k:Int):rY d l h k/\gF d l h k=s6 d l h k:=by
 have W:=arB d l h k;have X:=(@Wp d l h k).2;have hstep:∀ j s,j< (aD d l h k).1.length->kU d l h k j s=(.inr (match opn d h ((aD d l h k).1.getD j default)with|some c=>qe s c|none=>s):Empty⊕List Claim):=λj s O=>by
  obtain⟨⟨⟨a,b⟩,c,e⟩,Y,hk⟩:=D2 O;grind [kU,Zp,opn]
 have hJ0:∀ j,(((aD d l h k).1.take j).filterMap (opn d h)).foldl ud []=(((aD d l h k).1.take j).filterMap (opn d h)).foldl ud []:=λ_=>rfl;have hlj:∀ j,((((aD d l h k).1.take j).filterMap (opn d h)).foldl ud []).length<=153600:=λj=>by
  grind [N5]
 have E:∀ j s,j< (aD d l h k).1.length->s=(((aD d l h k).1.take j).filterMap (opn d h)).foldl ud []->(match opn d h ((aD d l h k).1.getD j default)with|some c=>qe s c|none=>s)=(((aD d l h k).1.take (j+1)).filterMap (opn d h)).foldl ud []:=λj s O V=>by
  rw[ce _ default O,anc,List.foldl_append,<-V];cases hc:opn d h ((aD d l h k).1.getD j default)with
  |none=>grind
  |some c=>
   simp_all [W8]
 refine⟨⟨W.1,?_⟩,?_⟩;rw[W.2];refine jS (λj s=>s=(((aD d l h k).1.take j).filterMap (opn d h)).foldl ud []) _ _ _ rfl λj s _ O V=>?_;have O:j< (aD d l h k).1.length:=by omega
 obtain⟨⟨⟨a,b⟩,c,e⟩,Y,hk⟩:=D2 O;refine⟨?_,λs' e=>?_⟩;intro _;rw[W.2];exact⟨⟨a,b⟩,λ_=>by have:=Y.every;omega,λ_=>(W8 s _ (by grind)).1⟩;grind
 obtain⟨r,h1,h2⟩:=jA (step:=kU d l h k) (λj s=>s=(((aD d l h k).1.take j).filterMap (opn d h)).foldl ud []) (aD d l h k).1.length 0 [] rfl (λj s _ O V=>⟨_,hstep j s (by omega),E j s (by omega) V⟩);unfold gF;rw[W.2,h1];simp only;rw[h2,ak8,amw];rfl
theorem W_{f:Int}(W:aw d=0)(E:0<=f)(h1:f< (d.zs.length:Int)):lm d f h/\ji d f h=K8 d f h:=by
 obtain⟨Y,V⟩:=acX (Jd W E h1);refine⟨⟨⟨E,h1⟩,Y⟩,?_⟩;have key:∀ (L:List Int) (i:Nat) (step:Nat->Unit->Int⊕Unit),(∀ k,k<L.length->step (i+k) ()=bif(NN d f h (L.getD k 0))then .inl (L.getD k 0)else .inr ())->(match aj step L.length i ()with| .inl x=>x| .inr _=>(-1))=(L.find? (NN d f h)).getD (-1):=by
  intro L;induction L with
  |nil=>intro i step _;rfl
  |cons x L ih=>
   intro i step O;have E:=O 0 (by simp);rw[ano]at E;rw[ak5,aj];simp only[al_]at E;rw[E,List.find?_cons];cases NN d f h x with
   |true=>rfl
   |false=>
    simp only[cond_false];exact ih (i+1) step λk X=>by
     have:=O (k+1) (by grind);grind
 unfold ji K8 Ru;rw[V];exact key _ 0 _ λk X=>by
  unfold nV;rw[V,ak8];rfl
theorem Zq (d:ah)(l:List bn)(fr to k:Int):qt d l fr to k/\ma d l fr to k=wC d l fr to k:=by
 refine⟨x8 d l,?_⟩;unfold ma wC;rw[Ro,Ws];by_cases hc:a_ d l=0
 rw[hc];simp only[bne_self_eq_false,cond_false,ne_eq,not_true,if_false];by_cases E:s7 d fr to k
 rw[Wt (sT hc).right E,decide_eq_true E,if_neg (not_not_intro E)];grind
 grind
 grind
variable {l:List bn}{k:Int}
theorem ye{fr to:Int}(h:wC d l fr to k=0):a_ d l=0/\s7 d fr to k/\¬4096< (to - fr+1)*(d.ai.length:Int):=by
 grind [wC]
theorem Jq (d:ah)(l:List bn)(h k:Int):(s6 d l h k).length<=600*d.ai.length:=by rw[(zx d l h k).length_eq];exact(Jb d l h k).1
theorem Tp{β:Type}{fr to:Int}{G:Int->List β}(E:wC d l fr to k=0)(hG:∀ h,(G h).length<=(s6 d l h k).length)(h1:fr<=h)(h2:h<=to):((hrs fr (h - 1)).flatMap G).length+(s6 d l h k).length<=2457600:=by
 obtain⟨_,O,V⟩:=ye E;have W:=uZ G (600*d.ai.length) (hrs fr (h - 1)) λa _=>ald (hG a) (Jq d l a k);rw[Rl]at W;have X:=Jq d l h k;refine rE O V (ald (m:=(h - 1+1 - fr).toNat*(600*d.ai.length)+600*d.ai.length) (by omega) ?_);rw[<-anp];exact alg _ (by omega)
theorem adi (d:ah)(l:List bn)(fr to k:Int):vQ d l fr to k/\mc d l fr to k=lim (wC d l fr to k) (ofL d l k fr to):=by
 obtain⟨c1,c2⟩:=Zq d l fr to k;by_cases Y:wC d l fr to k=0
 obtain⟨hc,X,hb⟩:=ye Y;have hR:=(sT hc).right;have V:∀ (h:Int) (s0:List Claim×Int),s0.2=h->∀ j s,j< (s6 d l h k).length->qZ d l k s0 j s=.inr (s++((λc:Claim=>if K8 d c.gl h<0 then some c else none) ((s6 d l h k).getD j default)).toList):=λh s0 hs j s hj=>by
  have E:=AK (Gx _ default hj);unfold qZ;rw[hs,(G5 d l h k).2,(W_ E.exp E.f0 E.f1).2];grind
 have W:=Rt (step:=mb d l to k) (p:=nr d l to k) fr to (ofH d l k) X.1.1 (by have:=X.1.2.2;have:=hR.hours;omega) (by have:=X.1.2.1;omega)
  (λj s h h1 h2=>by
   unfold mb;simp only;rw[decide_eq_true h2,(G5 d l h k).2];simp only[cond_true];rw[Gw (s6 d l h k) default (λc:Claim=>if K8 d c.gl h<0 then some c else none) s (V h (s,h) rfl)];rfl)
  (λj s h h1=>by grind [mb])
  (λj h h1 h2=>by
   unfold nr;simp only;intro O;have O:h<=to:=of_decide_eq_true O;rw[(G5 d l h k).2];refine⟨(G5 d l h k).1,?_⟩;refine K6 (s6 d l h k) default (λc:Claim=>if K8 d c.gl h<0 then some c else none) _ (V h (_,h) rfl) λi hi=>?_;intro _;simp only;rw[(G5 d l h k).2];have E:=AK (Gx _ default hi);refine⟨(W_ E.exp E.f0 E.f1).1,λ_=>?_⟩;have h3:=Tp (G:=ofH d l k) Y (λh=>by grind [ofH]) h1 O;grind [d8])
 obtain⟨r1,r2⟩:=W;rw[<-ac5]at r2;refine⟨⟨c1,λ_=>⟨r1,λz hz=>by grind⟩⟩,?_⟩;unfold mc lim;grind
 have hne:(ma d l fr to k !=0)=true:=by grind
 refine⟨⟨c1,λh=>by grind⟩,?_⟩;unfold mc lim;grind
def Qh (d:ah)(l:List bn)(k fr to:Int):List Y2:=(hrs fr to).flatMap λh=>(((rb d (je d l h k)).filterMap (opn d h)).foldl ud []).map (fnd d h)
theorem Xa{fr to:Int}(h:wC d l fr to k=0):rD d l k fr to=Qh d l k fr to:=by
 obtain⟨hc,⟨⟨a,b,c⟩,e,f⟩,_⟩:=ye h;unfold rD Qh;have:∀ L:List Int,(∀ x∈L,fr<=x/\x<=to)->(L.flatMap λh=>(s6 d l h k).map (fnd d h))=L.flatMap λh=>(((rb d (je d l h k)).filterMap (opn d h)).foldl ud []).map (fnd d h):=λL=>by
  induction L with
  |nil=>intro _;rfl
  |cons x L V=>
   intro O;have E:=O x (by simp);rw[alp,alp,V λy hy=>O y (by simp[hy])];congr 2
   unfold s6 mg;rw[(I_ d l x k).2,if_neg (by simp[hc]),if_pos (by omega)]
 exact this _ λx E=>Y3.1 E
theorem RJ{fr to:Int}{F:List Y2}(h:wC d l fr to k=0)(E:Qh d l k fr to=F)(h1:decide (4096< (F.filterMap ofF).length)=false):aB d l fr to k=(F.filterMap ofF,0):=by
 rw[(GA d l fr to k).2];unfold lim ofL;rw[Xa h,E,if_pos h,if_neg (of_decide_eq_false h1)]
def yf (a0:ah)(a1:List Claim):Bool:=letI q0:=(a0.reaches.length:Int);letI q1:=(a0.zs.length:Int);(bif((((((((decide (q0 > 8))&&(decide (q0<=64))) ||(decide (q0 > 100))) ||((decide (q1 > 8))&&(decide (q1<=600)))) ||(decide (q1 > 700))) ||(decide ((a0.ai.length:Int) > 300))) ||(decide ((a0.aoF.length:Int) > 300))) ||(decide ((a0.aoK.length:Int) > 100)))then false else(((decide (a0.hours<=30)) ||(decide (a0.hours > 1024)))&&(decide ((a1.length:Int)<=60))))
@[go_sem] def N6:List SV->Option Con:=(pD .al λa0=>(pR .Q1 λa1=>(pE (.det True (.v (.bool (yf a0 a1)))))))
theorem Lv:P1 Tryz.prog 26 N6:=by
 have hG:=mG W2 W2;refine fN hG Tryz.f26 [.o] (az λa0=>(bM λa1=>(am (λE=>?_))));dsimp only[an]at E;refine⟨nbl rfl,L0,ag _,?_⟩;unfold ae Tryz.f26;try unfold yf
 exact zq2
end Go.Sx
end
section
namespace Go.Sx
open Go.Lib Go.Proofs Go.Shelf Go.Sort
open IntKind (i64)
theorem v7 {α:Type}{cf:α->α->Int}(O:SWO (ltOf cf)){l m:List α}(Y:m.Perm l)(W:m.Pairwise λx y=>ltOf cf x y=true):srt cf l=m:=by
 have h1:(srt cf l).Pairwise λx y=>(!(ltOf cf y x))=true:=by
  refine alW (λa b c h1 h2=>?_) (λa b=>?_) l;simp only[alm]at h1 h2 |-;exact O.ntrans _ _ _ h2 h1;cases q:ltOf cf b a with
  |false=>rfl
  |true=>
   cases E:ltOf cf a b with
   |false=>rfl|true=>have:=O.trans _ _ _ q E;rw[O.irrefl]at this;cases this
 have h2:m.Pairwise λx y=>(!(ltOf cf y x))=true:=W.imp λ{x y} q=>by
  cases E:ltOf cf y x with
  |false=>rfl|true=>have:=O.trans _ _ _ q E;rw[O.irrefl]at this;cases this
 have V:(srt cf l).Perm l:=al5 _ _;refine al9 (λa b X hb q1 E=>?_) h1 h2 (V.trans Y.symm);have X:a∈m:=Y.mem_iff.2 (V.mem_iff.1 X);obtain⟨i,hi,rfl⟩:=alI X;obtain⟨j,hj,rfl⟩:=alI hb;rw[aly]at W;rcases Nat.lt_trichotomy i j with q|q|q;have:=W i j hi hj q;rw[this]at E;cases E;subst q;rfl;have:=W j i hj hi q;rw[this]at q1;cases q1
theorem xK {d:ah}{c:List Claim}{out l:List Order}{B:List T1}(h1:dI d c=0)(h2:decide ((i64.wrap ((d.reaches.length:Int)*d.hours)) > 1024)=false)(W:ay c=out)
  (O:bC out=false) (X:aO d out=(l,true,0)) (E:dN l d=B):
  bU d c=match B with| [] =>(l,({ kind:=0,hour:=0,index:=0,dd:=0,limit:=0}:T1),0) |f::_=>([],f,0):=by
 have V:a9 d c=(out,0):=by
  unfold a9;rw[h1,h2,W,O];rfl
 unfold bU;simp only[V,X,E,bne_self_eq_false,cond_false,alj];cases B <;>rfl
abbrev eT (h i n:Int)(o:Bool):Order:= { hour:=h,index:=i,dd:=n,aol:=o}
end Go.Sx
end
section
namespace Go.Sx
open Go.Proofs
def t8 (gl:Int):aoU:=({ name:=(ByteArray.mk #[]),kind:=1,gl:=gl,reach:=0,aoA:=0,dd:=6,since:=1,to:=3,every:=1,length:=1}:aoU)
@[go_sem] def Ie:List SV->Option Con:=(pI λgl=>(pE (.det True (.agg (cellsOf .right (t8 gl))))))
theorem G6:P1 Tryz.prog 64 Ie:=by
 have hG:=mG W2 W2;refine fN hG Tryz.f64 [.st .right] (aG λgl=>(am (λE=>?_)));dsimp only[an]at E;refine⟨nbl rfl,L0,ag _,?_⟩;unfold ae Tryz.f64;try unfold t8
 exact zq2
def bS:ah:=({ name:=(ByteArray.mk #[]),hours:=4,aoE:=({ cap:=99,start:=99}:apK),reaches:=[({ name:=(ByteArray.mk #[]),up:=(-1),delay:=1,cap:=10,ao7:=50,aoI:=0,apd:=({ lo:=0,hi:=0}:Range),aoT:=(({ n:=0,d:=1}:W1),({ n:=0,d:=1}:W1))}:Reach)],zs:=[({ name:=(ByteArray.mk #[]),reach:=0,ap6:=0,apa:=(-1)}:apE),({ name:=(ByteArray.mk #[]),reach:=0,ap6:=0,apa:=(-1)}:apE)],aoK:=[],ai:=[(t8 0),(t8 1)],aoF:=[],apf:=[]}:ah)
@[go_sem] def If:List SV->Option Con:=(pE (.det True (.agg [.v (.string ((bS).name)),.v (.int .i64 ((bS).hours)),.v (.int .i64 ((bS).aoE.cap)),.v (.int .i64 ((bS).aoE.start)),.nw .reach ((bS).reaches),.nw .gl ((bS).zs),.v (.slice none 0 0),.nw .right ((bS).ai),.v (.slice none 0 0),.v (.slice none 0 0)])))
theorem G7:P1 Tryz.prog 24 If:=by
 have hG:=mG (cp G6 W2) W2;refine fE hG Tryz.f24 (am (λE=>?_));dsimp only[an]at E;refine⟨nbl rfl,L0,ag _,?_⟩;unfold ae Tryz.f24;try unfold bS
 exact zq2
@[go_sem] def Ba (l_:List Int)(n:Int)(k_0:Nat)(x4:Unit):Unit⊕Unit:=(bif((l_.getD k_0 0) ==n)then .inl ()else .inr ())
def va (l_:List Int)(n:Int):Bool:=(match aj (Ba l_ n) l_.length 0 ()with| .inl u0=>true| .inr x4=>false)
@[go_sem] def N7:List SV->Option Con:=(pR .int λl_=>(pI λn=>(pE (.det True (.v (.bool (va l_ n)))))))
theorem Lw:P1 Tryz.prog 53 N7:=by
 have hG:=mG W2 W2;refine fN hG Tryz.f53 [.o] (bM λV=>(aG λn=>(am (λY=>?_))));dsimp only[an]at Y;refine⟨nbl rfl,(λid st=>bif Nat.beq id 0 then some (LCR (ρ:=Unit) (σ:=Unit) 0 [] [] (λE O=>⟨[(0,.rs .int V),(1,.v (.int .i64 n)),(5,.v (.int .i64 (E:Int)))],[]⟩) (Ba V n) pT V.length () (True) (λ_=>.ret) (λW=>⟨[(4,.v (.bool true))],[]⟩) st)else none),?_,?_⟩;unfold ae Tryz.f53;simp only[ak,true_and,and_true];refine d9 (V.length<=aN) mixed aJ hG kr (λ_=>rfl) (V.length:Int) rfl fH (λhb0 E O X _ hw hc=>⟨L0,ag _,?_⟩) (λhb0 O hc=>?_) λhb0 E O=>?_;exact bE (jl []);exact bF (jl []);exact zq8;unfold ae Tryz.f53;try unfold va
 exact zq2
@[go_sem] def gn (c:List Claim)(k_0:Nat)(k_1:Nat)(s_1:List Int):Empty⊕(List Int):=(bif(((c.getD k_1 default).right==(k_0:Int))&&(!(va s_1 (k_0:Int))))then .inr (s_1++([(k_0:Int)]))else .inr s_1)
def lu (c:List Claim)(k_0:Nat)(k_1:Nat)(s_1:List Int):Prop:=(c.length<=aN->((((c.getD k_1 default).right==(k_0:Int))&&(!(va s_1 (k_0:Int))))=true->((s_1++([(k_0:Int)])).length*8<=d8)))
@[go_sem] def nO (d:ah)(c:List Claim)(k_0:Nat)(x4:List Int):Empty⊕(List Int):=(match aj (gn c k_0) c.length 0 x4 with| .inl x=>x.elim| .inr s_1=>.inr s_1)
def pe (d:ah)(c:List Claim)(k_0:Nat)(x4:List Int):Prop:=(d.ai.length<=aN->okI (gn c k_0) (lu c k_0) c.length 0 x4)
def v8 (d:ah)(c:List Claim):List Int:=(match aj (nO d c) d.ai.length 0 ([])with| .inl x=>x.elim| .inr x4=>x4)
def pf (d:ah)(c:List Claim):Prop:=okI (nO d c) (pe d c) d.ai.length 0 ([])
@[go_sem] def G8:List SV->Option Con:=(pD .al λd=>(pR .Q1 λc=>(pE (.det (pf d c) (.rs .int (v8 d c))))))
theorem DN:P1 Tryz.prog 28 G8:=by
 have hG:=mG (cn [.sl .int,.o] Lw W2) W2;refine fN hG Tryz.f28 [.sl .int] (az λd=>(bM λc=>(am (λY=>?_))));dsimp only[an]at Y;unfold pf at Y;refine⟨nbl rfl,(λid st=>bif Nat.beq id 0 then some (LCR (ρ:=Empty) (σ:=(List Int)) 1 [.slot 5 (.row .int ([]))] [0,1] (λE O=>⟨[(1,.rs .Q1 c),(2,.ptr 0 0),(5,.os 1),(6,.v (.int .i64 (E:Int)))],[.cells (cellsOf .al d),.row .int O]⟩) (nO d c) (pe d c) d.ai.length ([]) (True) ((·.elim)) ((·.elim)) st)else none),?_,?_⟩;unfold ae Tryz.f28;simp only[ak,true_and,and_true];refine d9 (d.ai.length<=aN) mixed aJ hG kr (λ_=>rfl) (d.ai.length:Int) rfl fH (λhb0 E O apq X hw hc=>⟨(λid st=>bif Nat.beq id 2 then some (LCR (ρ:=Empty) (σ:=(List Int)) 2 [] [0,1,1] (λW V=>⟨[(1,.rs .Q1 c),(2,.ptr 0 0),(5,.os 2),(6,.v (.int .i64 (E:Int))),(7,.v (.int .i64 (W:Int)))],[.cells (cellsOf .al d),.dead,.row .int V]⟩) (gn c E) (lu c E) c.length O (True) ((·.elim)) ((·.elim)) st)else none),?_,?_⟩) (λhb0 O hc=>?_) λhb0 E O=>?_;simp only[ak,true_and,and_true];refine d9 (c.length<=aN) mixed aJ hG kr (λ_=>rfl) (c.length:Int) rfl fH (λhb1 W V apU hq1 hw hc=>⟨L0,ag _,?_⟩) (λhb1 V hc=>?_) λhb1 W V=>?_;unfold lu at hq1;try simp only[hw,ak1]at hq1
 exact sP (jl [0,1,4]) (jl [0,1,2]);exact sQ (jl [0,1,4]) (jl [0,1,2]);exact Pz;unfold pe at X;try simp only[hw,ak1]at X
 exact sP (jl [0,2]) (jl [0,1]);exact sQ (jl [0,2]) (jl [0,1]);exact zq8;unfold ae Tryz.f28;try unfold v8
 exact zq2
def qg (d:ah)(l_:List bn)(fr:Int)(to:Int)(known:Int):Bool:=letI q0:=mc d l_ fr to known;letI q1:=((v8 d (q0.1)).length:Int);(bif((!(x7 d l_ fr to)) ||(!(yf d ([]))))then false else(bif(q0.2 !=0)then true else((decide (((q0.1).length:Int)<=60))&&((decide (q1<=6)) ||(decide (q1 > 10))))))
def t9 (d:ah)(l_:List bn)(fr:Int)(to:Int)(known:Int):Prop:=(((!(x7 d l_ fr to)) ||(!(yf d ([]))))=false->((vQ d l_ fr to known)/\(((mc d l_ fr to known).2 !=0)=false->(pf d ((mc d l_ fr to known).1)))))
@[go_sem] def N8:List SV->Option Con:=(pD .al λd=>(pR .B1 λl_=>(pI λfr=>(pI λto=>(pI λknown=>(pE (.det (t9 d l_ fr to known) (.v (.bool (qg d l_ fr to known))))))))))
theorem Lx:P1 Tryz.prog 10 N8:=by
 have hG:=mG (cn [.st .al,.sl .B1,.o,.o] KQ (cn [.st .al,.sl .Q1] Lv (cn [.st .al,.sl .B1,.o,.o,.o] Nt (cn [.st .al,.sl .Q1] DN W2)))) W2;refine fN hG Tryz.f10 [.o] (az λd=>(bM λO=>(aG λfr=>(aG λto=>(aG λknown=>(am (λE=>?_)))))));dsimp only[an]at E;unfold t9 at E;refine⟨nbl rfl,L0,ag _,?_⟩;unfold ae Tryz.f10;try unfold qg
 exact zq2
def g5:=({ ai:=[],kind:=0,reach:=0,hour:=0,Y1:=[]}:aoz)
def g6:=({ ai:=[2],kind:=0,reach:=0,hour:=0,Y1:=[]}:aoz)
def dY:=({ name:=bS.name,hours:=bS.hours,aoE:=bS.aoE,reaches:=bS.reaches,zs:=bS.zs,aoK:=[],ai:=bS.ai,aoF:=[],apf:=[]}:ah)
def g7:=(cS dY ([]) 2 3 0)
def dx:=(g7.1)
def iZ:=(dx.ai)
def mr:=(dx.Y1)
def gf:=(iZ.length:Int)
def kX:=(mr.length:Int)
def nB:=(iZ.getD 1 (0:Int))
def kY:=(iZ.getD 0 (0:Int))
def jL:=(mr.getD 0 (default:M1))
def jM:=(dz dY ([]) 2 3 0 g5)
def nC:=(dz dY ([]) 2 3 0 g6)
def nD:=(dz dY ([]) 3 2 0 dx)
def jN:=(dz dY ([]) 2 3 0 dx)
def nE:=({ name:=bS.name,hours:=bS.hours,aoE:=bS.aoE,reaches:=(bS.reaches.set 0 ({ name:=(bS.reaches.getD 0 (default:Reach)).name,up:=(bS.reaches.getD 0 (default:Reach)).up,delay:=(bS.reaches.getD 0 (default:Reach)).delay,cap:=12,ao7:=(bS.reaches.getD 0 (default:Reach)).ao7,aoI:=(bS.reaches.getD 0 (default:Reach)).aoI,apd:=(bS.reaches.getD 0 (default:Reach)).apd,aoT:=(bS.reaches.getD 0 (default:Reach)).aoT}:Reach)),zs:=bS.zs,aoK:=[],ai:=bS.ai,aoF:=[],apf:=[]}:ah)
def jO:=(cS nE ([]) 2 3 0)
def qh:Bool:=(bif((((((((((g7.2.2 !=0) ||(jN.2 !=0)) ||(jM.2 !=0)) ||(nC.2 !=290)) ||(nD.2 !=1)) ||(jO.2.2 !=0)) ||(!g7.2.1)) ||(!jN.1)) ||jM.1) ||jO.2.1)then false else((((((((gf==2)&&(kY==0))&&(nB==1))&&(dx.kind==1))&&(dx.reach==0))&&(dx.hour==1))&&(kX==1))&&((jL.reach==0)&&((jL.hour==1)&&((jL.dd==12)&&(jL.wanted==12))))))
def r7:Prop:=((mK dY ([]) 2 3 0)/\((gZ dY ([]) 2 3 0 dx)/\((gZ dY ([]) 2 3 0 g5)/\((gZ dY ([]) 2 3 0 g6)/\((gZ dY ([]) 3 2 0 dx)/\((0<=0/\0< (bS.reaches.length:Int))/\((mK nE ([]) 2 3 0)/\(((((((((((g7.2.2 !=0) ||(jN.2 !=0)) ||(jM.2 !=0)) ||(nC.2 !=290)) ||(nD.2 !=1)) ||(jO.2.2 !=0)) ||(!g7.2.1)) ||(!jN.1)) ||jM.1) ||jO.2.1)=false->(iZ.length<=aN->(((gf==2)=true->(0<=0/\0<gf))/\((((gf==2)&&(kY==0))=true->(0<=1/\1<gf))/\((((((((gf==2)&&(kY==0))&&(nB==1))&&(dx.kind==1))&&(dx.reach==0))&&(dx.hour==1))&&(kX==1))=true->(0<=0/\0<kX)))))))))))))
@[go_sem] def Ly:List SV->Option Con:=(pE (.det (r7) (.v (.bool (qh)))))
theorem Ig:P1 Tryz.prog 9 Ly:=by
 have hG:=mG (cn [.st .al,.sl .B1,.o,.o,.o] yY (cn [.st .al,.sl .B1,.o,.o,.o,.st .refusal] wo (cp G7 W2))) W2;refine fN hG Tryz.f9 [.o] (am (λE=>?_));dsimp only[an]at E;unfold r7 at E;try simp only[g5,g6,dY,g7,dx,iZ,mr,gf,kX,nB,kY,jL,jM,nC,nD,jN,nE,jO]at E
 refine⟨nbl rfl,L0,ag _,?_⟩
 ·unfold ae Tryz.f9;try unfold qh
  simp (maxSteps:=1000000) only[go_sem,g5,g6,dY,g7,dx,iZ,mr,gf,kX,nB,kY,jL,jM,nC,nD,jN,nE,jO];all_goals exact cl
end Go.Sx
end
section
namespace Go.Sx
open Go.Proofs Go.Shelf Go.Sort
abbrev r8 (f h:Int):Claim:= { right:=f,gl:=f,hour:=h,dd:=6,aoA:=0}
abbrev wp:List Claim:=[r8 0 2,r8 1 2,r8 0 3,r8 1 3]
abbrev F29:T1:= { kind:=0,hour:=0,index:=0,dd:=0,limit:=0}
abbrev D29:ah:=dY
abbrev E29:ah:=nE
theorem Zr {l m:List Int}(E:m.Perm l)(O:m.Pairwise (· <= ·)):wu l=m:=by
 unfold wu;refine al9 (le:=(· <= ·)) (λa b _ _=>Int.le_antisymm) ?_ O ((al5 _ _).trans E.symm);have:=alW (le:=λx y:Int=>decide (x<=y)) (λa b c h1 h2=>by grind) (λa b=>by simp;omega) l;grind
theorem arz:aB D29 [] 2 3 0=(wp,0):=(RJ (F:=[{ Q1:=r8 0 2,reach:= -1},{ Q1:=r8 1 2,reach:= -1},{ Q1:=r8 0 3,reach:= -1},{ Q1:=r8 1 3,reach:= -1}]) kr kr kr).trans kr
theorem ahZ:aB E29 [] 2 3 0=(wp,0):=(RJ (F:=[{ Q1:=r8 0 2,reach:= -1},{ Q1:=r8 1 2,reach:= -1},{ Q1:=r8 0 3,reach:= -1},{ Q1:=r8 1 3,reach:= -1}]) kr kr kr).trans kr
theorem ev0:bU D29 []=([],F29,0):=by
 have E:ay []=srt ar []:=by kernel_rfl
 rw[v7 (m:=[]) kg (by decide) (by decide)]at E;have O:aO D29 []=(srt aL [],true,0):=by kernel_rfl
 rw[v7 (m:=[]) vV (by decide) (by decide)]at O;exact xK (B:=[]) kr kr E kr O kr
theorem ev1:bU D29 [r8 0 2,r8 0 3]=([eT 1 0 6 false,eT 2 0 6 false,eT 2 0 6 true,eT 3 0 6 true],F29,0):=by
 have E:ay [r8 0 2,r8 0 3]=srt ar [eT 2 0 6 true,eT 3 0 6 true]:=by kernel_rfl
 rw[v7 (m:=[eT 2 0 6 true,eT 3 0 6 true]) kg (by decide) (by decide)]at E;have O:aO D29 [eT 2 0 6 true,eT 3 0 6 true]=(srt aL [eT 2 0 6 true,eT 3 0 6 true,eT 1 0 6 false,eT 2 0 6 false],true,0):=by kernel_rfl
 rw[v7 (m:=[eT 1 0 6 false,eT 2 0 6 false,eT 2 0 6 true,eT 3 0 6 true]) vV (by decide) (by decide)]at O;exact xK (B:=[]) kr kr E kr O kr
theorem ev2:bU D29 [r8 1 2,r8 1 3]=([eT 1 0 6 false,eT 2 0 6 false,eT 2 1 6 true,eT 3 1 6 true],F29,0):=by
 have E:ay [r8 1 2,r8 1 3]=srt ar [eT 2 1 6 true,eT 3 1 6 true]:=by kernel_rfl
 rw[v7 (m:=[eT 2 1 6 true,eT 3 1 6 true]) kg (by decide) (by decide)]at E;have O:aO D29 [eT 2 1 6 true,eT 3 1 6 true]=(srt aL [eT 2 1 6 true,eT 3 1 6 true,eT 1 0 6 false,eT 2 0 6 false],true,0):=by kernel_rfl
 rw[v7 (m:=[eT 1 0 6 false,eT 2 0 6 false,eT 2 1 6 true,eT 3 1 6 true]) vV (by decide) (by decide)]at O;exact xK (B:=[]) kr kr E kr O kr
theorem aay:ay wp=[eT 2 0 6 true,eT 2 1 6 true,eT 3 0 6 true,eT 3 1 6 true]:=by
 have E:ay wp=srt ar [eT 2 0 6 true,eT 2 1 6 true,eT 3 0 6 true,eT 3 1 6 true]:=by kernel_rfl
 rwa[v7 (m:=[eT 2 0 6 true,eT 2 1 6 true,eT 3 0 6 true,eT 3 1 6 true]) kg (by decide) (by decide)]at E
abbrev Qi:List Order:=[eT 1 0 12 false,eT 2 0 12 false,eT 2 0 6 true,eT 2 1 6 true,eT 3 0 6 true,eT 3 1 6 true]
theorem ev3:bU D29 wp=([],({ kind:=1,hour:=1,index:=0,dd:=12,limit:=10}:T1),0):=by
 have E:aO D29 [eT 2 0 6 true,eT 2 1 6 true,eT 3 0 6 true,eT 3 1 6 true]=(srt aL [eT 2 0 6 true,eT 2 1 6 true,eT 3 0 6 true,eT 3 1 6 true,eT 1 0 12 false,eT 2 0 12 false],true,0):=by kernel_rfl
 rw[v7 (m:=Qi) vV (by decide) (by decide)]at E;exact xK (B:=[{ kind:=1,hour:=1,index:=0,dd:=12,limit:=10},{ kind:=1,hour:=2,index:=0,dd:=12,limit:=10}]) kr kr aay kr E kr
theorem ev4:bU E29 wp=(Qi,F29,0):=by
 have E:aO E29 [eT 2 0 6 true,eT 2 1 6 true,eT 3 0 6 true,eT 3 1 6 true]=(srt aL [eT 2 0 6 true,eT 2 1 6 true,eT 3 0 6 true,eT 3 1 6 true,eT 1 0 12 false,eT 2 0 12 false],true,0):=by kernel_rfl
 rw[v7 (m:=Qi) vV (by decide) (by decide)]at E;exact xK (B:=[]) kr kr aay kr E kr
theorem Xb (d:ah):av { d:=d,c:=wp} =[0,1]:=by
 have e:av { d:=d,c:=wp} =cpI (wu [0,1,0,1]):=by kernel_rfl
 rw[e,Zr (m:=[0,0,1,1]) (by decide) (by decide)];decide
theorem N9:aI D29 [] 2 3 0=({ d:=D29,c:=wp},0):=by
 grind [aI,bG,arz,ev3,Xb]
theorem ah0:aI E29 [] 2 3 0=({ d:=E29,c:=wp},0):=by
 grind [aI,bG,ahZ,ev4,Xb]
abbrev Xc:List M1:=[{ reach:=0,hour:=1,dd:=12,wanted:=12},{ reach:=0,hour:=2,dd:=12,wanted:=12}]
abbrev Lz:C1:= { d:=D29,c:=wp}
theorem ah1:aY Lz=Xc:=by kernel_rfl
abbrev f29:T1:= { kind:=1,hour:=1,index:=0,dd:=12,limit:=10}
theorem ah2:b9 Lz Xc f29=[{ reach:=0,hour:=1,dd:=12,wanted:=12}]:=by
 have e:b9 Lz Xc f29=srt bJ [{ reach:=0,hour:=1,dd:=12,wanted:=12}]:=by kernel_rfl
 simp_all [srt]
abbrev W29 (z:List Int):ByteArray×Int×Int×Int×List Reach×List apE×List ap1×List aoU×List ap8×List ap7×List Claim×List Int:=(D29.name,D29.hours,D29.aoE.cap,D29.aoE.start,D29.reaches,D29.zs,D29.aoK,D29.ai,D29.aoF,D29.apf,wp,z)
theorem adj (z:List Int)(c:List Claim)(h:da Lz z= { d:=D29,c:=c})(h2:(bU D29 c).2=(F29,0)):dO D29 [] 2 3 0 z ()=.inr ():=by
 grind [dO,bv,N9]
theorem ah3:dO D29 [] 2 3 0 [0,1] ()=.inl (W29 [0,1]):=by
 have h:da Lz [0,1]=Lz:=by kernel_rfl
 grind [dO,bv,N9,ev3]
theorem ah4:cB (dO D29 [] 2 3 0) (eC (av Lz)) ()=.inl (W29 [0,1]):=by
 have e:eC [0,1]=[[],[0],[1],[0,1]]:=by kernel_rfl
 rw[Xb,e];simp only[cB,adj [] [] kr (by rw[ev0]),adj [0] [r8 0 2,r8 0 3] kr (by rw[ev1]),adj [1] [r8 1 2,r8 1 3] kr (by rw[ev2]),ah3]
abbrev r29:aoz:= { ai:=[0,1],kind:=1,reach:=0,hour:=1,Y1:=[{ reach:=0,hour:=1,dd:=12,wanted:=12}]}
theorem ah5:cS D29 [] 2 3 0=(r29,true,0):=by
 unfold cS bv bG;simp only[N9,ah4,ev3];show(({ ai:=[0,1],kind:=1,reach:=0,hour:=1,Y1:=b9 Lz (aY Lz) f29}:aoz),true,(0:Int))=_;rw[ah1,ah2]
theorem adk:cS E29 [] 2 3 0=(({ ai:=[],kind:=0,reach:=0,hour:=0,Y1:=[]}:aoz),false,0):=by
 grind [cS,bv,ah0,ev4]
theorem Tq:dz D29 [] 2 3 0 r29=(true,0):=by
 unfold dz;have:aj (dT D29 [] 2 3 0 r29) r29.ai.length 0 ()=.inr ():=by
  show aj (dT D29 [] 2 3 0 r29) 2 0 ()=.inr ();simp only[aj,dT,N9,Xb];rfl
 have h2:aj (gm D29 [] 2 3 0 r29) 4 0 ()=.inl true:=by
  rfl
 rw[this,h2,N9];rfl
theorem Tr:dz D29 [] 2 3 0 g5=(false,0):=by
 unfold dz;have:aj (dT D29 [] 2 3 0 g5) g5.ai.length 0 ()=.inr ():=by
  rfl
 have h2:aj (gm D29 [] 2 3 0 g5) 4 0 ()=.inr ():=by
  rfl
 grind [N9]
theorem Ts:dz D29 [] 2 3 0 g6=(false,290):=by
 unfold dz;have:aj (dT D29 [] 2 3 0 g6) g6.ai.length 0 ()=.inl ():=by
  show aj (dT D29 [] 2 3 0 g6) 1 0 ()=.inl ();simp only[aj,dT,N9,Xb];rfl
 grind [N9]
theorem Tt (r:aoz):(dz D29 [] 3 2 0 r).2=1:=by
 rfl
theorem Xd:qh=true:=by
 unfold qh jO jL kY nB kX gf mr iZ jN nD nC jM dx g7;simp_all [ah5,adk,Tq,Tt,Ts,Tr]
end Go.Sx
end
section
namespace Go.Sx
open Go.Proofs
open IntKind (i64)
structure Lsr (d:ah)(T:apK)(R:List Reach):Prop where
 d0:aw d=0
 x0:aw { d with aoE:=T,reaches:=R} =0
 len:R.length=d.reaches.length
 at_:∀ i,∃ c b,R.getD i default= { d.reaches.getD i default with cap:=c,ao7:=b}/\c<=(d.reaches.getD i default).cap/\b<=(d.reaches.getD i default).ao7
 start:T.start<=d.aoE.start
section
variable {d:ah}{T:apK}{R:List Reach}(h:Lsr d T R)
include h
end
theorem N_ (c:List Claim)(E:Nat)(hc:c.length<=4096)(s:List Int)(Y:s.length<=E*4096)(X:E<256):okI (gn c E) (lu c E) c.length 0 s/\∀ r,aj (gn c E) c.length 0 s=.inr r->r.length<=(E+1)*4096:=by
 have O:∀ j (t:List Int),t.length<=E*4096+j->∀ t',gn c E j t=.inr t'->t'.length<=E*4096+(j+1):=λj t V t' e=>by
  unfold gn at e;cases q:(((c.getD j (default:Claim)).right==(E:Int))&&(!(va t (E:Int))))with
  |true=>rw[q]at e;cases e;rw[ak9];simp only[ak5,alo];omega|false=>rw[q]at e;cases e;omega
 constructor
 refine jS (λj t=>t.length<=E*4096+j) _ _ _ (by omega) λj t _ W V=>⟨λ_ _=>?_,O j t V⟩;rw[ak9];simp only[ak5,alo];unfold d8;omega;intro r hr;have:=uI (λj t=>t.length<=E*4096+j) _ _ _ (by omega) (λj t _ W V=>O j t V) r hr;omega
theorem art (d:ah)(c:List Claim)(hc:c.length<=4096)(hd:d.ai.length<=256):pf d c:=by
 refine jS (λj (t:List Int) =>t.length<=j*4096) _ _ _ (by simp) λj t _ O E=>⟨λ_=>(N_ c j hc t E (by omega)).1,λt' e=>?_⟩;unfold nO at e;cases q:aj (gn c j) c.length 0 t with
 |inl x=>exact x.elim
 |inr r=>rw[q]at e;cases e;exact(N_ c j hc t E (by omega)).2 _ q
theorem Zs (d:ah)(l:List bn)(fr to k:Int):t9 d l fr to k:=by
 intro _;refine⟨(adi d l fr to k).1,λh=>?_⟩;have e:mc d l fr to k=aB d l fr to k:=(adi d l fr to k).2.trans (GA d l fr to k).2.symm;rw[e]at h |-;refine art _ _ (Cy d l fr to k) ?_;have h:(lim (wC d l fr to k) (ofL d l k fr to)).2=0:=by rw[<-(GA d l fr to k).2];simpa using h
 have E:wC d l fr to k=0:=by
  unfold lim at h;split at h
  assumption
  exact h
 have O:aw d=0:=by
  have:=(ye E).1;unfold a_ at this;cases q:(aw d !=0)with
  |true=>rw[q]at this;exact this|false=>simpa using q
 have:=((qT d).1 O).1;omega
theorem bt {c X:Bool}(h:c=false->X=true):(bif c then true else X)=true:=by
 cases c with
 |true=>rfl|false=>exact h rfl
theorem D8:∀ (n:Nat) (s l z:List Int),z∈chz n s l↔∃ y,y.Sublist l/\y.length=n/\z=s++y
 |0,s,l,z=>by
  rw[A4,alz];exact⟨λh=>⟨[],List.nil_sublist _,rfl,by grind⟩,λ⟨y,_,hy,e⟩ =>by grind⟩
 |n+1,s,[],z=>by
  grind [chz]
 |n+1,s,x::l,z=>by
  simp only[chz];split
  exact⟨λh=>(by cases h),λ⟨y,h,hy,_⟩ =>by have:=h.length_le;simp only[ak5]at this;omega⟩;rw[alu,D8 n,D8 (n+1)];constructor
  rintro (⟨y,h,hy,e⟩ | ⟨y,h,hy,e⟩);exact⟨x::y,h.cons_cons x,by rw[ak5,hy],by rw[e,alG];rfl⟩;exact⟨y,h.cons x,hy,e⟩;rintro⟨y,h,hy,e⟩;cases h with
  |cons _ h=>exact .inr ⟨y,h,hy,e⟩
  | @cons_cons E _ _ h=>exact .inl ⟨E,h,by simpa using hy,by rw[e,alG];rfl⟩
theorem Oa {l z:List Int}:z∈A_ l↔z.Sublist l:=by
 unfold A_;rw[amk];constructor
 rintro⟨n,_,h⟩;obtain⟨y,h1,_,rfl⟩:=(D8 _ _ _ _).1 h;exact h1;exact λh=>⟨z.length,by grind,(D8 _ _ _ _).2 ⟨z,h,rfl,rfl⟩⟩
variable {S:List Int}
theorem RK{j:Nat}(h:j<S.length)(E:Lib.keeps S.toArray j=true):S[j]∈cpI S:=by
 unfold cpI Lib.compact Lib.compactUpTo;exact al3.2 ⟨j,amC.2 ⟨amy.2 h,E⟩,by simp[h]⟩
theorem Xe {S:List Int}:∀ (j:Nat) (h:j<S.length),S[j]∈cpI S
 |0,h=>RK h (by rfl)
 |j+1,h=>by
  by_cases E:Lib.keeps S.toArray (j+1)=true
  exact RK h E;have h2:j<S.length:=by omega
  have e:S[j+1]=S[j]:=by
   grind [Lib.keeps]
  rw[e];exact Xe j h2
theorem ah6(O:S.Pairwise (· <= ·)):(cpI S).Pairwise (· < ·):=by
 unfold cpI Lib.compact Lib.compactUpTo;refine amS.2 (List.Pairwise.imp_of_mem ?_ (List.pairwise_lt_range.filter _));intro i j hi V E;obtain⟨_,_⟩:=amC.1 hi;obtain⟨h1,h2⟩:=amC.1 V;have h1:=amy.1 h1;unfold Lib.keeps at h2;rw[decide_eq_true_eq]at h2;have W:S[j]≠S[j - 1]:=by
  grind
 have q:=aly.1 O;grind
theorem G9 (s:C1):av s=cpI (wu (s.c.map λx=>x.right)):=by
 have key:∀ (L K:List Claim) (t:List Int),s.c=K++L->aj (fm s) L.length K.length t=.inr (t++L.map λx=>x.right):=λL=>by
  induction L with
  |nil=>grind [aj]
  |cons x L E=>
   intro K t h;have g:s.c.getD K.length default=x:=by rw[h];simp
   rw[ak5,aj];unfold fm;simp only[g];have:=E (K++[x]) (t++[x.right]) (by grind);rw[ak9]at this;unfold fm at this;grind
 have:=key s.c [] [] rfl;grind [av]
theorem Qj {s:C1}{x:Claim}(h:x∈s.c):x.right∈av s:=by
 rw[G9];have:x.right∈wu (s.c.map λx=>x.right):=by unfold wu;exact List.mem_mergeSort.2 (al3.2 ⟨x,h,rfl⟩)
 obtain⟨j,E,e⟩:=alE.1 this;rw[<-e];exact Xe j E
theorem Tu (s:C1):(av s).Pairwise (· < ·):=by
 rw[G9];refine ah6 ?_;unfold wu;refine(alW (le:=λx y=>decide (x<=y)) (λa b c h1 h2=>?_) (λa b=>?_) _).imp λh=>of_decide_eq_true h <;>grind
theorem C_ (n:Int)(l:List Int):dW l n=l.any λy=>n==y:=by
 unfold dW ju;rcases xv (step:=j5 l n) l (0:Int) (λy=>n==y) (λk _=>rfl)with⟨e,h⟩ | ⟨K,y,R,E,e,h,_⟩ <;>grind
theorem adl (x:Claim)(l:List Int):bu x l= !l.any λy=>x.right==y:=by
 unfold bu;rw[C_]
theorem Xf {d:ah}{c:List Claim}(h:(bv d c).2.1=true):(bv d c).2.2=0:=by
 simp_all [bv]
theorem G_ {α ρ:Type}{step:α->Unit->ρ⊕Unit}(E:α->Bool)(f:α->ρ)(h:∀ z,step z ()=bif E z then .inl (f z)else .inr ()):∀ L,(∃ z∈L,E z=true)->∃ A z B,L=A++z::B/\(∀ y∈A,E y=false)/\E z=true/\cB step L ()=.inl (f z)
 | [],⟨z,O,_⟩ =>by cases O
 |x::L,⟨z,O,V⟩ =>by
  rw[cB,h];cases W:E x with
  |true=>exact⟨[],x,L,rfl,λy hy=>(by cases hy),W,rfl⟩
  |false=>
   obtain⟨A,w,B,e,h1,h2,X⟩:=G_ E f h L ⟨z,by
    grind,V⟩
   grind
abbrev flt (c:List Claim)(z:List Int):List Claim:=c.filter λx=>!bu x z
abbrev Oc (d:ah)(c:List Claim):Bool:=(bv d c).2.1
abbrev rts (d:ah)(c:List Claim):List Int:=av { d:=d,c:=c}
theorem Zt (d:ah)(c:List Claim):flt c (rts d c)=c:=by
 refine anm.2 λx E=>?_;rw[adl,Bool.not_not,al4];exact⟨x.right,Qj (s:= { d:=d,c:=c}) E,by simp⟩
section
variable {d:ah}{l:List bn}{fr to k:Int}
theorem RM (V:Opn d l fr to k)(O:Oc d (aB d l fr to k).1=false):∃ A z B,A_ (rts d (aB d l fr to k).1)=A++z::B/\(∀ y∈A,Oc d (flt (aB d l fr to k).1 y)=true)/\Oc d (flt (aB d l fr to k).1 z)=false/\cB (dO d l fr to k) (eC (rts d (aB d l fr to k).1)) ()=.inl (d.name,d.hours,d.aoE.cap,d.aoE.start,d.reaches,d.zs,d.aoK,d.ai,d.aoF,d.apf,flt (aB d l fr to k).1 z,z):=by
 have hc:=Cy d l fr to k;have E:(rts d (aB d l fr to k).1).length<=10:=by have:=V.ten;grind
 obtain⟨A,z,B,h1,h2,X,W⟩:=G_ (step:=dO d l fr to k) (λz=>!Oc d (flt (aB d l fr to k).1 z)) (λz=>(d.name,d.hours,d.aoE.cap,d.aoE.start,d.reaches,d.zs,d.aoK,d.ai,d.aoF,d.apf,flt (aB d l fr to k).1 z,z)) (λz=>by
  simp_all [dO,xJ,vN]) (A_ (rts d (aB d l fr to k).1)) ⟨rts d (aB d l fr to k).1,Oa.2 (List.Sublist.refl _),by rw[Zt,O];rfl⟩
 rw[Lt (show(rts d (aB d l fr to k).1).length<=900 by omega)];grind
theorem Xg (d:ah)(l:List bn)(fr to k:Int):mK d l fr to k:=by
 refine⟨aaw d l fr to k,λh0=>?_⟩;have E:=(Lr d l fr to k).1 (by grind);have hc:=Cy d l fr to k;have W:(av { d:=d,c:=(aB d l fr to k).1}).length<=10:=by have:=E.ten;omega
 rw[xJ E];dsimp only;refine⟨Lm _ _,λX=>⟨zJ _ hc,adh (by omega),DX _ _ λz V _=>?_,?_⟩⟩;rw[Lt (by omega)]at V;have:=To V;unfold kM;rw[xJ E];exact⟨(vN _ _ hc).1,Lm _ _,λ_=>by unfold d8;omega⟩;obtain⟨A,z,B,_,_,_,e⟩:=RM E X;refine⟨λw hw=>(by grind),λw hw=>?_⟩;rw[e]at hw;cases hw;have O:=W7 (s:= { d:=d,c:=flt (aB d l fr to k).1 z}) (A3 E.ask.chk) E.ask.wide λx Y=>G4 E.ask x (amC.1 Y).1;exact⟨GV _ _,O.1,Qf (s:= { d:=d,c:=flt (aB d l fr to k).1 z}) O.2⟩
end
theorem Xh:r7:=by
 refine⟨Xg _ _ _ _ _,A9 _ _ _ _ _ _,A9 _ _ _ _ _ _,A9 _ _ _ _ _ _,A9 _ _ _ _ _ _,⟨by decide,by decide⟩,Xg _ _ _ _ _,λ_ _=>⟨λh=>?_,λh=>?_,λh=>?_⟩⟩;all_goals
  simp only[akZ,beq_iff_eq]at h;omega
section
variable {d:ah}{c:List Claim}{l:List Order}
end
def toG (y:M1):Order:= { hour:=y.hour,index:=y.reach,dd:=y.dd,aol:=false}
def toC (a:Claim):Order:= { hour:=a.hour,index:=a.gl,dd:=a.dd,aol:=true}
abbrev UP:=List ((Int×Int)×Bool)
theorem vb {k v:Tag}(l:List (k.T×v.T))(x z:k.T)(y:v.T):aq k v (cH k v l x y) z=if z=x then y else aq k v l z:=by
 grind [aq,cH,uR]
section
variable {s:C1}{t:List M1×Mp×UP×Int}{k:Nat}{S:List M1}{m:Mp}{u:UP}
theorem ah7 (E:aq .aok .bool u (t.2.2.2,(k:Int))=false)(hn:aq .aok .int m (t.2.2.2,(k:Int))=0):aW s t k (S,m,u)=.inr (S,m,u):=by
 grind [aW]
theorem ah8 (h:aq .aok .bool u (t.2.2.2,(k:Int))=true\/aq .aok .int m (t.2.2.2,(k:Int))≠0/\(ax (rch s.d t.2.2.2) (aq .aok .int m (t.2.2.2,(k:Int)))).2=false):aW s t k (S,m,u)=.inr (S,m,cH .aok .bool u ((rch s.d t.2.2.2).up,i64.wrap ((k:Int) - (rch s.d t.2.2.2).delay)) true):=by
 unfold aW;unfold ax at h;grind
theorem ah9 (E:aq .aok .bool u (t.2.2.2,(k:Int))=false)(hn:aq .aok .int m (t.2.2.2,(k:Int))≠0)(h:(ax (rch s.d t.2.2.2) (aq .aok .int m (t.2.2.2,(k:Int)))).2=true):
  aW s t k (S,m,u)=.inr (bif decide (i64.wrap ((k:Int) - (rch s.d t.2.2.2).delay)>=0)then S++[{ reach:=t.2.2.2,hour:=i64.wrap ((k:Int) - (rch s.d t.2.2.2).delay),dd:=(ax (rch s.d t.2.2.2) (aq .aok .int m (t.2.2.2,(k:Int)))).1,wanted:=aq .aok .int m (t.2.2.2,(k:Int))}]else S,cH .aok .int m ((rch s.d t.2.2.2).up,i64.wrap ((k:Int) - (rch s.d t.2.2.2).delay)) (i64.wrap (aq .aok .int m ((rch s.d t.2.2.2).up,i64.wrap ((k:Int) - (rch s.d t.2.2.2).delay))+(ax (rch s.d t.2.2.2) (aq .aok .int m (t.2.2.2,(k:Int)))).1)),u):=by
 unfold aW;unfold ax at h |-;grind
end
section
variable {d:ah}{s1:List T1×WM×UM×Int}{k:Nat}{u:UM}{F:List T1}{w:WM}
theorem adm (E:aq .bo .bool u (sl s1.2.2.2 k)=true):aC d s1 k (u,F,w)=.inr (cH .bo .bool u (sl (rch d s1.2.2.2).up (i64.wrap ((k:Int) - (rch d s1.2.2.2).delay))) true,F,w):=by
 simp_all [aC,sl]
theorem adn (O:aq .bo .bool u (sl s1.2.2.2 k)=false)(hn:aq .bo .int w (sl s1.2.2.2 k)≠0)
  (E:(ax (rch d s1.2.2.2) (aq .bo .int w (sl s1.2.2.2 k))).2=false\/(k:Int) < (rch d s1.2.2.2).delay):
  aC d s1 k (u,F,w)=.inr (cH .bo .bool u (sl (rch d s1.2.2.2).up (i64.wrap ((k:Int) - (rch d s1.2.2.2).delay))) (aq .bo .bool u (sl (rch d s1.2.2.2).up (i64.wrap ((k:Int) - (rch d s1.2.2.2).delay))) || !(ax (rch d s1.2.2.2) (aq .bo .int w (sl s1.2.2.2 k))).2),F++[ltF k s1.2.2.2 (aq .bo .int w (sl s1.2.2.2 k))],w):=by
 unfold aC ltF;unfold sl at O hn E |-;simp only[O,cond_false];generalize W:aq .bo .int w ({ index:=s1.2.2.2,hour:=(k:Int)}:r5)=n at hn E |-;have V:(n==0)=false:=by grind
 rw[V,cond_false];unfold ax at E |-;grind
end
structure PS (d:ah)(c:List Claim)(S:List M1)(x:M1):Prop where
 i0:0<=x.reach
 i1:x.reach< (d.reaches.length:Int)
 h0:0<=x.hour
 h1:x.hour+(rch d x.reach).delay<d.hours
 w:x.wanted=drw d (c.map toC++S.map toG) x.reach (x.hour+(rch d x.reach).delay)
 w1:1<=x.wanted
 v:ax (rch d x.reach) x.wanted=(x.dd,true)
structure LF (d:ah)(c:List Claim)(S:List M1)(f:T1):Prop where
 kind:f.kind=7
 i0:0<=f.index
 i1:f.index< (d.reaches.length:Int)
 h0:0<=f.hour
 h1:f.hour<d.hours
 w:f.dd=drw d (c.map toC++S.map toG) f.index f.hour
 w1:1<=f.dd
 b:(ax (rch d f.index) f.dd).2=false\/f.hour< (rch d f.index).delay
structure RL (d:ah)(c:List Claim)(r h:Int)(N:Nat)(S:List M1)(m:Mp)(u:UP)(U:UM)(F:List T1)(w:WM):Prop where
 apv:∀ a b,0<=b->aq .aok .int m (a,b)=drw d (c.map toC++S.map toG) a b
 ord:S.Pairwise plt
 one:∀ x∈S,PS d c S x/\(r<x.reach\/x.reach=r/\x.hour+(rch d x.reach).delay<h)
 len:S.length<=N
 rm:∀ a b,0<=b->aq .bo .int w (sl a b)=aq .aok .int m (a,b)
 ru:∀ a b,0<=b->aq .bo .bool U (sl a b)=aq .aok .bool u (a,b)
 flt:∀ f∈F,LF d c S f/\(r<f.index\/f.index=r/\f.hour<h)
def PLR (out:List Order)(S:List M1)(m:Mp)(u:UP)(y:List Order×Mp):Prop:=y.1=out++S.map toG/\(∀ a b,aq .aok .int y.2 (a,b)=aq .aok .int m (a,b))/\∀ a b,aq .aok .bool u (a,b)=false
variable {d:ah}{c:List Claim}{S:List M1}{x:M1}
theorem Ha(a b:Int):drw d (c.map toC++(S++[x]).map toG) a b=drw d (c.map toC++S.map toG) a b+(if a=(rch d x.reach).up/\b=x.hour then x.dd else 0):=by
 rw[amo,<-alG,t5,alt,alM,D4];grind [oj,toG]
theorem PS.lit(hr:aoL d)(h:PS d c S x):1<=x.dd/\x.dd<=1073741824/\(rch d x.reach).aoI<=x.dd/\x.wanted<=wst (rch d x.reach) x.dd/\∀ v,0<=v->v<=1073741824->(rch d x.reach).aoI<=v->x.wanted<=wst (rch d x.reach) v->x.dd<=v:=by
 have E:x.reach.toNat<d.reaches.length:=by have:=h.i0;have:=h.i1;omega
 rcases yc (i:=(x.reach.toNat:Int)) (by omega) (hr.reach _ E) h.w1 with⟨v,e,O,W,X,Y,V⟩ | ⟨e,_⟩;have:=h.v;grind
 rw[h.v]at e;cases e
theorem LA(hc:∀ a∈c,1<=a.dd/\a.dd<=1073741824)(hn:c.length<=4096)(O:∀ x∈S,1<=x.dd/\x.dd<=1073741824)(W:S.length<=1024)(a b:Int):0<=drw d (c.map toC++S.map toG) a b/\drw d (c.map toC++S.map toG) a b<=5497558138880:=by
 have:=u5 (d:=d) (l:=c.map toC++S.map toG) (λx V=>by
  rcases alu.1 V with q|q;obtain⟨z,E,rfl⟩:=al3.1 q;exact hc z E;obtain⟨z,E,rfl⟩:=al3.1 q;exact O z E) a b
 grind
end Go.Sx
end
