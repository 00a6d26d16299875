/- Part of the proof that the law RefuseLeast returns true and leaves its arguments as they were, for all arguments of bulk at most 1048576 (the Upto form). -/
import Derived.Test.YtaikmgjfkejlkaaGreatS112
import Derived.Shelf.SlSortCmp.NoneTotal
import Derived.Ground.SlsfProg
import Derived.Test.YtaikmgjfkejlkaaGreatS103
import Derived.Test.YtaikmgjfkejlkaaGreatProg
import Derived.Test.YtaikmgjfkejlkaaGreatS108
import Derived.Test.YtaikmgjfkejlkaaGreatS107
import Derived.Test.YtaikmgjfkejlkaaGreatS109
import Derived.Test.YtaikmgjfkejlkaaGreatS110
set_option linter.all false
set_option maxHeartbeats 4000000
set_option maxRecDepth 100000
section
namespace Go.Sx
open Go.Proofs
open IntKind (i64 u64)
def wst (x:Reach)(v:Int):Int:=v - (gQ x v).hi
def WB {i:Int}{x:Reach}(h:dA i x=true){v:Int}(V:0<=v)(W:v<=1073741824):wst x v=max 0 ((x.apt.2.d - x.apt.2.n)*v / x.apt.2.d - x.apP.hi):=by
 obtain⟨U,g2,g3,g4⟩:=zx h;have E:=K_ U;have d1:=E.r2.d1;have X:(x.apt.2.d - x.apt.2.n)*v / x.apt.2.d=v+ -(x.apt.2.n*v) / x.apt.2.d:=by
  grind [Int.add_mul_ediv_left]
 rw[X];unfold wst gQ;cases O:(v==0)with
 |true=>
  simp only[beq_iff_eq]at O;subst O;simp only[cond_true,Int.mul_zero,Int.neg_zero,Int.zero_ediv];omega
 |false=>
  simp only[cond_false];obtain⟨_,b1,Y,b3⟩:=GF E.r2 E.c2 E.m2 V W;grind [aA]
def Zq {k d a b:Int}(E:0<=k)(hd:1<=d)(h:a<=b):k*a / d<=k*b / d:=anq (by omega) (anr h E)
section
variable {i:Int}{x:Reach}
theorem WC (h:dA i x=true){v:Int}(E:0<=v)(O:v<=1073741824):0<=wst x v/\wst x v<=v:=by
 have:=La h E O;unfold wst;omega
theorem NO (h:dA i x=true){a b:Int}(a0:0<=a)(O:a<=b)(U:b<=1073741824):wst x a<=wst x b:=by
 have E:=K_ (zx h).1;have:=E.r2.d1;rw[WB h a0 (by omega),WB h (by omega) U];have:=Zq (k:=x.apt.2.d - x.apt.2.n) (d:=x.apt.2.d) (by have:=E.n2;omega) E.r2.d1 O;omega
end
def ah6 {i j:Int}(E:0<=i)(h1:i<=j)(h2:j<=2305843009213693952):i64.wrap (lp .u64 (u64.wrap (i64.wrap (i+j))) 1)=(i+j) / 2:=by
 have U:i64.wrap (i+j)=i+j:=aA (by omega) (by omega);have e:u64.wrap (i+j)=i+j:=by
  grind [IntKind.wrap,IntKind.bits]
 have O:lp .u64 (i+j) 1=(i+j) / 2:=by
  show Int.fdiv (i+j) ((2:Int) ^ min (Int.toNat 1) u64.bits)=_;have:(2:Int) ^ min (Int.toNat 1) u64.bits=2:=by decide
  grind
 grind [aA]
def P2 {f:Int->Bool}{N:Int}{step:Nat->Int×Int->Int⊕(Int×Int)}(hN:N<=2305843009213693952)
  (hs:∀ k i j,0<=i->i<j->j<=N->step k (i,j)=if f ((i+j) / 2)=true then .inr (i,(i+j) / 2)else .inr ((i+j) / 2+1,j)) (he:∀ k i j,¬i<j->step k (i,j)=.inl i):
  ∀ (E k:Nat) (i j:Int),0<=i->i<=j->j<=N->j - i<2 ^ E->∃ v,aj step (E+1) k (i,j)=.inl v/\i<=v/\v<=j/\
   ((∀ a b,0<=a->a<=b->b<N->f a=true->f b=true)->(∀ u,i<=u->u<v->f u=false)/\(v<j->f v=true)):=by
 intro E;induction E with
 |zero=>
  intro k i j U h1 h2 h3;have:j=i:=by omega
  subst this;exact⟨j,by grind [aj],amD _,amD _,λ_=>⟨λu h4 X=>by omega,λh=>by omega⟩⟩
 |succ E ih=>
  intro k i j U h1 h2 h3;by_cases hlt:i<j
  have hp:(2:Int) ^ (E+1)=2 ^ E+2 ^ E:=by omega
  rw[show E+1+1=(E+1)+1 from rfl];simp only[aj,hs k i j U hlt h2];by_cases Y:f ((i+j) / 2)=true
  rw[if_pos Y];obtain⟨v,W,e2,e3,O⟩:=ih (k+1) i ((i+j) / 2) U (by omega) (by omega) (by omega);refine⟨v,W,e2,by omega,λV=>⟨(O V).1,λ_=>?_⟩⟩;grind
  rw[if_neg Y];obtain⟨v,W,e2,e3,O⟩:=ih (k+1) ((i+j) / 2+1) j (by omega) (by omega) h2 (by omega);refine⟨v,W,by omega,e3,λV=>⟨λu h4 X=>?_,(O V).2⟩⟩;grind
  have:j=i:=by omega
  subst this;exact⟨j,by grind [aj],amD _,amD _,λ_=>⟨λu h4 X=>by omega,λh=>by omega⟩⟩
def Jh (w:Int)(x:Reach):∃ v,aj (jY x w) 64 0 (0,1073741825)=.inl v/\0<=v/\v<=1073741825/\
  ((∀ a b,0<=a->a<=b->b<1073741825->fv a x w=true->fv b x w=true)->(∀ u,0<=u->u<v->fv u x w=false)/\(v<1073741825->fv v x w=true)):=by
 refine P2 (f:=λv=>fv v x w) (N:=1073741825) (by omega) (λk i j E h1 h2=>?_) (λk i j h=>?_) 63 0 0 1073741825 (by omega) (by omega) (by omega) (by decide);unfold jY;simp only;rw[ah6 E (by omega) (by omega),decide_eq_true h1,aA (by omega) (by omega)];grind
 grind [jY]
def WD (w:Int)(x:Reach):qw 1073741825 x w:=λz E=>by
 obtain⟨v,h,_⟩:=Jh w x;grind
def Lb (x:Reach)(w:Int):kS x w:=λ_=>WD _ x
def WE (x:Reach)(w:Int):mB x w:=λ_=>Lb x w
section
variable {i:Int}{x:Reach}
theorem WF (h:dA i x=true){w:Int}(hw:1<=w)(V:w<=1073741824):0<=fC (w - 1) x/\fC (w - 1) x<=1073741825/\(∀ u,0<=u->u<fC (w - 1) x->wst x u<w)/\(fC (w - 1) x<=1073741824->w<=wst x (fC (w - 1) x)):=by
 obtain⟨v,e1,e2,e3,O⟩:=Jh (w - 1) x;have ev:fC (w - 1) x=v:=by grind [fC,t5]
 have U:∀ u,0<=u->u<=1073741824->(fv u x (w - 1)=true↔w<=wst x u):=λu W X=>by
  have:=La h W X;unfold fv qu wst;rw[aA (by omega) (by omega),decide_eq_true_eq];omega
 obtain⟨e5,e6⟩:=O λa b a0 E Y ha=>(U b (by omega) (by omega)).2 (by
  have:=NO h a0 E (by omega);grind)
 grind
theorem Ji (h0:0<=i)(h:dA i x=true){w:Int}(hw:1<=w):(∃ v,bI x w=(v,true)/\1<=v/\v<=1073741824/\x.apl<=v/\w<=wst x v/\∀ u,0<=u->u<=1073741824->x.apl<=u->w<=wst x u->v<=u)\/
  ((bI x w).2=false/\∀ u,0<=u->u<=1073741824->wst x u<w):=by
 have E:=Jg h0 h;unfold bI;have hw0:(w==0)=false:=by grind
 by_cases O:w<=1073741824
 have hc:(w==0||decide (w > 1073741824))=false:=by grind
 rw[hc,hw0];simp only[cond_false];obtain⟨l1,l2,l3,l4⟩:=WF h hw O;unfold fH;have Y:(gH x w !=0)=false:=by grind [La]
 rw[Y,aA (by omega) (by omega)];simp only[cond_false];by_cases X:fC (w - 1) x<=1073741824
 rw[decide_eq_false (by omega)];simp only[cond_false,alZ];have U:=l4 X;have l6:=WC h l1 X;refine .inl ⟨_,rfl,?_,?_,?_,?_,λu V W u2 u3=>?_⟩;omega;have:=E.apl;have:=E.cap;omega;omega;have:=E.apl;have:=E.cap;split
 exact aoy U (NO h l1 (by omega) (by omega));exact U;grind
 grind
 have hc:(w==0||decide (w > 1073741824))=true:=by grind
 rw[hc];refine .inr ⟨by grind,λu V W=>?_⟩;have:=WC h V W;omega
end
end Go.Sx
end
section
namespace Go.Proofs
open Go.Shelf Go.Sx
def Tryz.aq0:Go.Shelf.Ren:=⟨λ|6=>171|15=>133|14=>246|28=>199|29=>200|20=>290|21=>291|22=>292|23=>293|24=>294|25=>295|26=>296|27=>297|46=>328|47=>260|48=>261|49=>329|50=>330|57=>343|n=>n,λ|22=>50|24=>259|25=>270|3=>3|39=>229|0=>0|53=>294|55=>296|4=>4|46=>288|45=>287|50=>267|5=>5|9=>9|66=>342|70=>60|76=>375|77=>376|n=>n,λ|n=>n⟩
theorem Tryz.arc:Go.Proofs.SlLaysF0.n6 Tryz.prog Tryz.aq0:=⟨kr,⟨Tryz.f171.name,by decide,kr⟩,⟨Tryz.f246.name,by decide,kr⟩,kr,⟨Tryz.f290.name,by decide,kr⟩,⟨Tryz.f291.name,by decide,kr⟩,⟨Tryz.f292.name,by decide,kr⟩,⟨Tryz.f293.name,by decide,kr⟩,⟨Tryz.f294.name,by decide,kr⟩,⟨Tryz.f295.name,by decide,kr⟩,⟨Tryz.f296.name,by decide,kr⟩,⟨Tryz.f297.name,by decide,kr⟩,kr,kr,⟨Tryz.f328.name,by decide,kr⟩,kr,kr,⟨Tryz.f329.name,by decide,kr⟩,⟨Tryz.f330.name,by decide,kr⟩,⟨Tryz.f343.name,by decide,kr⟩,kr,λ_=>kr,λ_=>kr,λ_=>kr,kr,λ_=>kr,λ_=>kr,λ_=>kr,kr,λ_=>kr,λ_=>kr,λ_=>kr,kr,λ_=>kr,λ_=>kr,λ_=>kr,kr,λ_=>kr,λ_=>kr,λ_=>kr,kr,λ_=>kr,λ_=>kr,λ_=>kr,kr,λ_=>kr,λ_=>kr,λ_=>kr,kr,λ_=>kr,λ_=>kr,λ_=>kr,kr,λ_=>kr,λ_=>kr,λ_=>kr,kr,λ_=>kr,λ_=>kr,λ_=>kr,kr,λ_=>kr,λ_=>kr,λ_=>kr,kr,λ_=>kr,λ_=>kr,λ_=>kr,kr,λ_=>kr,λ_=>kr,λ_=>kr,kr,λ_=>kr,λ_=>kr,λ_=>kr,kr,λ_=>kr,λ_=>kr,λ_=>kr,kr,λ_=>kr,λ_=>kr,λ_=>kr,kr,λ_=>kr,λ_=>kr,λ_=>kr⟩
end Go.Proofs
end
section
namespace Go.Sx
open Go.Proofs
@[go_sem] def td (l_:List Int)(Q1:Nat)(ly:Unit):Int⊕Unit:=(bif((l_.getD Q1 0) !=0)then .inl (l_.getD Q1 0)else .inr ())
def eW (l_:List Int):Int:=(match aj (td l_) l_.length 0 ()with| .inl gl=>gl| .inr ly=>0)
@[go_sem] def AN:List SV->Option Con:=(pR .int λl_=>(pE (.det True (.v (.int .i64 (eW l_))))))
def tf:zs Tryz.prog 173 AN:=by
 have hG:=mG C1 C1;refine fN hG Tryz.f173 [.o] (bD λO=>(am (λX=>?_)));dsimp only[an]at X;refine⟨Y2 rfl,(λid st=>bif Nat.beq id 0 then some (LCR (ρ:=Int) (σ:=Unit) 0 [] [] (λU V=>⟨[(5,.rs .int O),(6,.v (.int .i64 (O.length:Int))),(7,.v (.int .i64 (U:Int)))],[]⟩) (td O) pT O.length () (O.length<=aH) (λ_=>.ret) (λE=>⟨[(2,.v (.int .i64 E))],[]⟩) st)else none),?_,?_⟩;unfold ae Tryz.f173;simp only[ak,true_and,and_true];refine bL mixed aB hG kr (λ_=>rfl) (O.length:Int) rfl fj (λhb0 U V W _ hw hc=>⟨L0,ag _,?_⟩) (λhb0 V hc=>?_);exact bB (jl []);exact bC (jl []);unfold ae Tryz.f173;try unfold eW
 exact zq2
def ar (a:Order)(b:Order):Int:=(eW ([(be a.hour b.hour),(be a.index b.index)]))
@[go_sem] def pt:List SV->Option Con:=(pD .order λa=>(pD .order λb=>(pE (.det True (.v (.int .i64 (ar a b)))))))
def vP:zs Tryz.prog 243 pt:=by
 have hG:=mG (cp eK (cn [.sl .int] tf C1)) C1;refine fN hG Tryz.f243 [.o] (ax λa=>(ax λb=>(am (λE=>?_))));dsimp only[an]at E;refine⟨Y2 rfl,L0,ag _,?_⟩;unfold ae Tryz.f243;try unfold ar
 exact zq2
def o9 (x:Order):Bool:=(decide (x.bo > 1073741824))
@[go_sem] def yq:List SV->Option Con:=(pD .order λx=>(pE (.det True (.v (.bool (o9 x))))))
def xx:zs Tryz.prog 166 yq:=by
 have hG:=mG C1 C1;refine fN hG Tryz.f166 [.o] (ax λx=>(am (λE=>?_)));dsimp only[an]at E;refine⟨Y2 rfl,L0,ag _,?_⟩;unfold ae Tryz.f166;try unfold o9
 exact zq2
def NP (x:Int)(l:List Int):eW (x::l)=if x=0 then eW l else x:=by
 have key:∀ l:List Int,eW l=match di (ρ:=Int) (λ(x:Int) (_:Unit) =>bif(x !=0)then .inl x else .inr ()) l ()with| .inl y=>y| .inr _=>0:=λl=>by
  unfold eW;have:=rP (ρ:=Int) (λ(x:Int) (_:Unit) =>bif(x !=0)then .inl x else .inr ()) 0 l ();rw[<-this];rfl
 rw[key,key];simp only[di];grind
def P3:eW []=0:=rfl
def Lc:List (Int×Int)->Prop
 | [] =>False|(a,b)::r=>a<b\/a=b/\Lc r
def GG:∀ l:List (Int×Int),(eW (l.map λp=>be p.1 p.2) <0↔Lc l)
 | [] =>by simp[P3,Lc]
 |(a,b)::r=>by
  have hc:=jr a b;simp only[amu,NP,hc,Lc];rcases aog a b with h|h|h;simp[h];subst h;simp only[aoQ,if_false,if_true,true_and,false_or,gt_iff_lt];exact GG r;omega
def Tf (a b:Order):Prop:=Lc [(a.hour,b.hour),(a.index,b.index)]
def vQ (a b:Order):ar a b<0↔Tf a b:=GG [(a.hour,b.hour),(a.index,b.index)]
open Go.Shelf Go.Sort in
def j9:SWO (ltOf ar):=KH vQ (λx=>by simp_all [Tf,Lc]) (λx y z h1 h2=>by simp only[Tf,Lc,and_false,or_false]at *;omega) (λx y z h1 h2=>by simp only[Tf,Lc,and_false,or_false]at *;omega)
end Go.Sx
end
section
namespace Go.Sx
open Go.Lib Go.Proofs Go.RowKit Go.Shelf Go.Sort
noncomputable def tg:List SV->List Ob->Option apd:=λl h=>orC (iN .order 298 [.ep [mO] 0] aO l h) (iN .order 243 [] ar l h)
variable {l0:List Order}
@[go_sem] theorem XJ:tg [.os 0,.fn 298 [] [.ep [mO] 0]] [.row .order l0]=some (ft (apart aO l0) (.tup []) [.row .order (srt aO l0)]):=by
 unfold tg;rw[mV];rfl
@[go_sem] theorem WG:tg [.os 0,.fn 243 [] []] [.row .order l0]=some (ft (apart ar l0) (.tup []) [.row .order (srt ar l0)]):=by
 unfold tg;rw[mV];have:iN .order 298 [.ep [mO] 0] aO [.os 0,.fn 243 [] []] [.row .order l0]=none:=by simp[iN,ML]
 rw[this];rfl
theorem CT:xa .order:=λx s E=>by
 simp only[cellsOf,alV,amw,or_false]at E;rcases E with rfl|rfl|rfl|rfl;all_goals exact⟨_,rfl,rfl⟩
theorem WH (x y:Order):mb (.agg (cellsOf .order x):: .agg (cellsOf .order y)::[.ep [mO] 0])=some (.det True (.v (.int .i64 (aO x y)))):=by
 simp only[go_sem,Nat.reduceBEq]
theorem CU (x y:Order):pt (.agg (cellsOf .order x):: .agg (cellsOf .order y)::[])=some (.det True (.v (.int .i64 (ar x y)))):=by
 rfl
theorem CV:ape Tryz.prog 171 tg:=by
 refine ape.or ?_ ?_;refine qN (k:=.order) Tryz.arc (λw=>by kernel_rfl) (λw=>by kernel_rfl) CT (by decide) (g:=298) (caps:=[.ep [mO] 0]) wd (cf:=aO) WH vO (λs E=>?_) ⟨default,default,WH _ _⟩;simp only[alV,amw,or_false]at E;subst E;exact gb 5 _ rfl;exact qN (k:=.order) Tryz.arc (λw=>by kernel_rfl) (λw=>by kernel_rfl) CT (by decide) (g:=243) (caps:=[]) vP (cf:=ar) CU j9 (λs E=>by cases E) ⟨default,default,CU _ _⟩
end Go.Sx
end
section
namespace Go.Sx
open Go.Proofs
open IntKind (i64)
@[go_sem] def bQ (a0:ah)(a1:List Order)(Q1:Nat)(ly:List ((Int×Int)×Int)):Unit⊕(List ((Int×Int)×Int)):=letI q1:=a1.getD Q1 default;letI q0:=((a0.l5.getD (Int.toNat (q1.index)) default).reach,q1.hour);(bif(!q1.W1)then .inl ()else .inr (dH .apc .int ly q0 (i64.wrap ((aL .apc .int ly q0)+q1.bo))))
def jw (a0:ah)(a1:List Order)(Q1:Nat)(ly:List ((Int×Int)×Int)):Prop:=((!(a1.getD Q1 default).W1)=false->(0<=(a1.getD Q1 default).index/\(a1.getD Q1 default).index< (a0.l5.length:Int)))
@[go_sem] def bR (a0:ah)(z_1:Int×Int)(s_1:List Order×List ((Int×Int)×Int)):(List ((Int×Int)×Int))⊕(List Order×List ((Int×Int)×Int)):=letI q0:=a0.reaches.getD (Int.toNat z_1.1) default;letI q2:=i64.wrap (z_1.2 - q0.delay);letI q3:=aL .apc .int s_1.2 (z_1.1,z_1.2);letI q1:=bI q0 q3;(bif(q3==0)then .inr (s_1.1,s_1.2)else(bif((!q1.2) ||(decide (z_1.2<q0.delay)))then .inl s_1.2 else .inr ((s_1.1++([({ hour:=q2,index:=z_1.1,bo:=q1.1,W1:=false}:Order)])),(dH .apc .int s_1.2 (q0.up,q2) (i64.wrap ((aL .apc .int s_1.2 (q0.up,q2))+q1.1))))))
def ia (a0:ah)(z_1:Int×Int)(s_1:List Order×List ((Int×Int)×Int)):Prop:=letI q0:=a0.reaches.getD (Int.toNat z_1.1) default;letI q1:=aL .apc .int s_1.2 (z_1.1,z_1.2);letI q2:=bI q0 q1;((q1==0)=false->((0<=z_1.1/\z_1.1< (a0.reaches.length:Int))/\((mB q0 q1)/\(((!q2.2) ||(decide (z_1.2<q0.delay)))=false->((s_1.1++([({ hour:=(i64.wrap (z_1.2 - q0.delay)),index:=z_1.1,bo:=q2.1,W1:=false}:Order)])).length*32<=dI)))))
def aR (a0:ah)(a1:List Order):List Order×Bool×Int:=letI q0:=dR a0 a1;(bif(q0 !=0)then([],false,q0)else(match aj (bQ a0 a1) a1.length 0 ([])with| .inl gl=>([],false,220) | .inr ly=>(match di (bR a0) (dz a0) (a1,ly)with| .inl apR=>([],false,0) | .inr s_1=>(bif(decide ((s_1.1.length:Int) > 4096))then([],false,2)else((srt aO s_1.1),true,0)))))
def o_ (a0:ah)(a1:List Order):Prop:=letI q0:=bQ a0 a1;letI q1:=bR a0;letI q2:=dz a0;((mC a0 a1)/\(((dR a0 a1) !=0)=false->(a1.length<=aH->(okI q0 (jw a0 a1) a1.length 0 ([])/\(∀ ly,aj q0 a1.length 0 ([])=.inr ly->((a1.length*32<=dI)/\((a0.hours<9223372036854775808)/\okL q1 (ia a0) q2 (a1,ly)/\(∀ s_1,di q1 q2 (a1,ly)=.inr s_1->(s_1.1.length<=aH->((decide ((s_1.1.length:Int) > 4096))=false->(apart aO s_1.1)))))))))))
@[go_sem] def GH:List SV->Option Con:=(pD .al λa0=>(pR .order λa1=>(pE (.det (o_ a0 a1) (.tup [.rs .order ((aR a0 a1).1),.v (.bool ((aR a0 a1).2.1)),.v (.int .i64 ((aR a0 a1).2.2))])))))
variable {p:Prop}
theorem ah7(h:p:=by simp only[go_sem,e1_0,e1_1,e1_2,e1_3,e1_4,e1_5]):p:=h
variable {l0 l1:List Nat}
theorem ah8(a0:JL l0)(a1:JL l1)(h:JL l0->JL l1->p:=by intro ja jb;simp only[go_sem,mu,fY,bR,psT,Fa,al7,alR];all_goals exact gj ja jb):p:=h a0 a1
theorem aaE(a0:JL l0)(a1:JL l1)(h:JL l0->JL l1->p:=by intro ja jb;simp only[go_sem,mu,fY];all_goals exact gj ja jb):p:=h a0 a1
theorem ah9(h:p:=by simp only[go_sem,mu,fY];all_goals exact cl3):p:=h
theorem DD:zs Tryz.prog 109 GH:=by
 have hG:=mG (cn [.st .al,.sl .order] AL (cn [.sl .order] C8 (cn [.st .al] Ak (cp AK (cp s7 C1))))) (co CV C1);refine fN hG Tryz.f109 [.sl .order,.o,.o] (ax λa0=>(bD λa1=>(am (λY=>?_))));dsimp only[an]at Y;unfold o_ at Y;refine⟨Y2 rfl,(λid st=>bif Nat.beq id 0 then some (LCR (ρ:=Unit) (σ:=(List ((Int×Int)×Int))) 6 [] [0,1,2,3,4,5] (λV U=>⟨[(1,.rs .order a1),(2,.ptr 0 0),(4,.ptr 1 0),(5,.ptr 2 0),(6,.ptr 3 0),(7,.ptr 5 0),(23,.rs .order a1),(24,.v (.int .i64 (a1.length:Int))),(25,.v (.int .i64 (V:Int)))],[.cells (cellsOf .al a0),.cells [.v (.slice none 0 0)],.cells [.v (.bool false)],.cells [.v (.int .i64 (dR a0 a1))],.mp .apc .int U none,.cells [.os 4]]⟩) (bQ a0 a1) (jw a0 a1) a1.length ([]) (a1.length<=aH) (λ_=>.ret) (λgl=>⟨[(4,.ptr 1 0),(5,.ptr 2 0),(6,.ptr 3 0)],[.dead,.cells [.v (.slice none 0 0)],.cells [.v (.bool false)],.cells [.v (.int .i64 220)],.dead,.dead]⟩) st)else bif Nat.beq id 2 then some (LC (ρ:=List ((Int×Int)×Int)) (σ:=List Order×List ((Int×Int)×Int)) (lk 2 st.t=.ptr 0 0/\lk 4 st.t=.ptr 1 0/\lk 5 st.t=.ptr 2 0/\lk 6 st.t=.ptr 3 0/\lk 7 st.t=.ptr 5 0/\lk 53 st.t=.fn 245 [] [.ep (cellsOf .al a0) 0]/\st.h=[.cells (cellsOf .al a0),.cells [.os 6],.cells [.v (.bool false)],.cells [.v (.int .i64 (dR a0 a1))],.mp .apc .int (ci (aj (bQ a0 a1) a1.length 0 ([]))) none,.cells [.os 4],.row .order a1]/\a0.hours<9223372036854775808/\okL (bR a0) (ia a0) (dz a0) (a1,(ci (aj (bQ a0 a1) a1.length 0 ([]))))) (di (bR a0) (dz a0) (a1,(ci (aj (bQ a0 a1) a1.length 0 ([]))))) (λ_=>.ret) (λE=>⟨[(2,.ptr 0 0),(4,.ptr 1 0),(5,.ptr 2 0),(6,.ptr 3 0),(7,.ptr 5 0)],[.cells (cellsOf .al a0),.cells [.v (.slice none 0 0)],.cells [.v (.bool false)],.cells [.v (.int .i64 0)],.mp .apc .int E none,.cells [.os 4],.dead,.dead]⟩) (λO=>⟨[(2,.ptr 0 0),(4,.ptr 1 0),(5,.ptr 2 0),(6,.ptr 3 0),(7,.ptr 5 0)],[.cells (cellsOf .al a0),.cells [.os 7],.cells [.v (.bool false)],.cells [.v (.int .i64 (dR a0 a1))],.mp .apc .int O.2 none,.cells [.os 4],.dead,.row .order O.1]⟩))else none),?_,?_⟩
 ·unfold ae Tryz.f109;simp only[ak,true_and,and_true];refine⟨?_,?_⟩;refine bL mixed aB hG kr (λ_=>rfl) (a1.length:Int) rfl fj (λhb0 V U aqw X hw hc=>⟨L0,ag _,?_⟩) (λhb0 U hc=>?_);unfold jw at X;try simp only[hw,alI]at X
  exact bB (jl [0,1,2,3,4,5]);exact bC (jl [0,1,2,3,4,5])
  ·refine se mixed aB hG (by decide) (by decide) kr kr λst lc hC Y=>?_;simp only[go_sem,Nat.reduceBEq,alK]at hC;subst hC;obtain⟨t,h⟩:=st;dsimp only[LC]at Y;obtain⟨e1_0,e1_1,e1_2,e1_3,e1_4,e1_5,rfl,hb1,W⟩:=Y;refine⟨245,[.ep (cellsOf .al a0) 0],Int×Int,_,_,(dz a0),Fa,(bR a0),(ia a0),_,(a1,(ci (aj (bQ a0 a1) a1.length 0 ([])))),_,_,_,[(2,.ptr 0 0),(4,.ptr 1 0),(5,.ptr 2 0),(6,.ptr 3 0),(7,.ptr 5 0)],(λO=>[.cells (cellsOf .al a0),.cells [.os 7],.cells [.v (.bool false)],.cells [.v (.int .i64 (dR a0 a1))],.mp .apc .int O.2 none,.cells [.os 4],.dead,.row .order O.1]),(λE=>[.cells (cellsOf .al a0),.cells [.v (.slice none 0 0)],.cells [.v (.bool false)],.cells [.v (.int .i64 0)],.mp .apc .int E none,.cells [.os 4],.dead,.dead]),[0,1,2,3,4,5,6,6],?_,rfl,W,Y2 rfl,?_,SJ a0 hb1,λz_1 O hq1=>⟨rfl,L0,λl=>?_,λl=>?_,?_⟩,λO=>?_,λy=>?_⟩;exact ah7
   ·simp only[go_sem,sI,jR,al5,amR,alR,al3,amL,e1_0,e1_1,e1_2,e1_3,e1_4,e1_5];all_goals (first|done|decide|(repeat' (first|refine And.intro ?_ ?_|rfl|decide)))
   simp only[ak,and_self,true_and,and_true];simp only[ak,and_self,true_and,and_true];unfold ia at hq1;exact ah8 (jl [0,1,2,3,4,5,6,7]) (jl [0,1,2,3,4,5,6,10]);exact aaE (jl [0,1,2,3,4,5,6,7]) (jl [0,1,2,3,4,5,6,10]);exact aaE (jl [0,1,2,3,4,5,6,7]) (jl [0,1,2,3,4,5,6,10])
 unfold ae Tryz.f109;try unfold aR
 exact ah9
def Rr (d:ah)(reach hour:Int)(x:Order):Bool:=(x.hour==hour)&&((x.W1&&(d.l5.getD x.index.toNat default).reach==reach) ||(!x.W1&&(d.reaches.getD x.index.toNat default).up==reach))
abbrev rch (d:ah)(r:Int):Reach:=d.reaches.getD r.toNat default
def drw (d:ah)(l:List Order)(r h:Int):Int:=gk (Rr d r h) l
theorem GI {ρ σ τ:Type}{step:τ->σ->ρ⊕σ}(J:List τ->σ->Prop)(E:∀ x L s,J (x::L) s->∀ s',step x s=.inr s'->J L s'):∀ (L:List τ) (s:σ),J L s->(∀ s',di step L s=.inr s'->J [] s')/\∀ y,di step L s=.inl y->∃ x U s',J (x::U) s'/\step x s'=.inl y
 | [],s,h=>⟨λs' e=>by grind [di],λy e=>by simp[di]at e⟩
 |x::L,s,h=>by
  cases O:step x s with
  |inl y=>
   grind [di]
  |inr s1=>
   obtain⟨h1,h2⟩:=GI J E L s1 (E x L s h s1 O);grind [di]
def Ld {ρ σ τ:Type}{step:τ->σ->ρ⊕σ}{p:τ->σ->Prop}(J:List τ->σ->Prop)(E:∀ x L s,J (x::L) s->p x s/\∀ s',step x s=.inr s'->J L s'):∀ (L:List τ) (s:σ),J L s->okL step p L s
 | [],_,_=>trivial
 |x::L,s,h=>⟨(E x L s h).1,λs' e=>Ld J E L s' ((E x L s h).2 s' e)⟩
def PR (r h:Nat)(a b:Int):Prop:=(r:Int) <a\/a=r/\b< (h:Int)
abbrev Mp:=List ((Int×Int)×Int)
structure PG (d:ah)(l:List Order)(x:Order):Prop where
 out:x.W1=false
 i0:0<=x.index
 i1:x.index< (d.reaches.length:Int)
 h0:0<=x.hour
 h1:x.hour+(rch d x.index).delay<d.hours
 w:1<=drw d l x.index (x.hour+(rch d x.index).delay)
 v:bI (rch d x.index) (drw d l x.index (x.hour+(rch d x.index).delay))=(x.bo,true)
structure PI (d:ah)(out gs:List Order)(m:Mp)(r h:Nat):Prop where
 aqL:∀ a b,aL .apc .int m (a,b)=drw d (out++gs) a b
 gate:∀ x∈gs,PG d (out++gs) x/\PR r h x.index (x.hour+(rch d x.index).delay)
 all:∀ a b,0<=a->a< (d.reaches.length:Int)->0<=b->b<d.hours->PR r h a b->drw d (out++gs) a b≠0->∃ x∈gs,x.index=a/\x.hour+(rch d a).delay=b
 uniq:gs.Pairwise λx y=>¬ (x.index=y.index/\x.hour=y.hour)
 len:gs.length<=(d.reaches.length - 1 - r)*d.hours.toNat+h
def Rt (d:ah)(a b:List Order)(r h:Int):drw d (a++b) r h=drw d a r h+drw d b r h:=GC _ _ _
theorem Ru (d:ah)(x:Order)(r h:Int):drw d [x] r h=bif Rr d r h x then x.bo else 0:=by unfold drw;simp[gk]
variable {d:ah}{l:List Order}
theorem NQ(E:aps d){x:Order}(h:PG d l x):1<=x.bo/\x.bo<=1073741824/\(rch d x.index).apl<=x.bo/\drw d l x.index (x.hour+(rch d x.index).delay)<=wst (rch d x.index) x.bo/\∀ u,0<=u->u<=1073741824->(rch d x.index).apl<=u->drw d l x.index (x.hour+(rch d x.index).delay)<=wst (rch d x.index) u->x.bo<=u:=by
 have O:x.index.toNat<d.reaches.length:=by have:=h.i0;have:=h.i1;omega
 rcases Ji (i:=(x.index.toNat:Int)) (by omega) (E.reach _ O) h.w with⟨v,e,Y,X,W,U,V⟩ | ⟨e,_⟩;have:=h.v;grind
 rw[h.v]at e;cases e
variable {E:List Order}{m:Mp}{r h:Nat}
theorem PI.lit{out:List Order}(U:aps d)(O:apq d out)(p:PI d out E m r h):∀ x∈out++E,1<=x.bo/\x.bo<=1073741824:=λx hx=>by
 rcases amj.1 hx with hx|hx;exact O.lit x hx;have:=NQ U (p.gate x hx).1;omega
def Ca(h:∀ x∈l,1<=x.bo/\x.bo<=1073741824)(a b:Int):0<=drw d l a b/\drw d l a b<=l.length*1073741824:=GD h
variable {O:List Order}
theorem PI.arG{out:List Order}(E:aps d)(U:apq d out)(p:PI d out O m r h)(V:h<=d.hours.toNat):(out++O).length<=266240+4096:=by
 have h1:=p.len;have h2:(d.reaches.length - 1 - r)*d.hours.toNat<=64*4096:=aoc (by have:=E.reaches;omega) (by have:=E.hours;omega);have:=U.len;have:=E.hours;grind
theorem PI.row{out:List Order}(p:PI d out O m (r+1) d.hours.toNat)(W:r+1<d.reaches.length)(X:1<=d.hours):PI d out O m r 0:=by
 refine⟨p.aqL,λx E=>⟨(p.gate x E).1,?_⟩,λa b a0 a1 U V Y=>p.all a b a0 a1 U V ?_,p.uniq,?_⟩;have:=(p.gate x E).2;grind [PR]
 grind [PR]
 have:=p.len;rw[show d.reaches.length - 1 - r=(d.reaches.length - 1 - (r+1))+1 by omega,an9];omega
theorem PI.skip{out:List Order}(p:PI d out E m r h)(h0:drw d (out++E) r h=0):PI d out E m r (h+1):=by
 refine⟨p.aqL,λx U=>⟨(p.gate x U).1,?_⟩,λa b a0 a1 X V Y O=>?_,p.uniq,?_⟩;have:=(p.gate x U).2;grind [PR]
 by_cases W:PR r h a b
 exact p.all a b a0 a1 X V W O;grind [PR]
 have:=p.len;omega
def ah_(E:aps d)(h:r<d.reaches.length):(rch d r).up<r:=(E.aqG h).up
def Cb(E:aps d)(h:r<d.reaches.length):1<=(rch d r).delay/\(rch d r).delay<=16:=⟨(E.aqG h).aq8,(E.aqG h).delay⟩
theorem PI.add{out U:List Order}(Y:aps d)(ho:apq d out)(p:PI d out U m r h)(X:r<d.reaches.length)(hhl:h<d.hours.toNat)(h1:1<=drw d (out++U) r h){v:Int}(hv:bI (rch d r) (drw d (out++U) r h)=(v,true))(hd:(rch d r).delay<=h)(v0:1<=v)(v1:v<=1073741824):
  PI d out (U++[{ hour:=(h:Int) - (rch d r).delay,index:=r,bo:=v,W1:=false}]) (dH .apc .int m ((rch d r).up,(h:Int) - (rch d r).delay) (i64.wrap (aL .apc .int m ((rch d r).up,(h:Int) - (rch d r).delay)+v))) r (h+1):=by
 generalize hx:({ hour:=(h:Int) - (rch d r).delay,index:=(r:Int),bo:=v,W1:=false}:Order)=x;have xo:x.W1=false:=by rw[<-hx]
 have xi:x.index=r:=by rw[<-hx]
 have xh:x.hour=(h:Int) - (rch d r).delay:=by rw[<-hx]
 have xl:x.bo=v:=by rw[<-hx]
 have hup:=ah_ Y X;have hdl:=Cb Y X;have V:∀ a b,drw d (out++(U++[x])) a b=drw d (out++U) a b+(if a=(rch d r).up/\b=(h:Int) - (rch d r).delay then v else 0):=λa b=>by
  rw[<-amt,Rt,Ru];congr 1
  unfold Rr;grind
 have E:∀ a b,(r:Int)<=a->drw d (out++(U++[x])) a b=drw d (out++U) a b:=λa b ha=>by
  grind
 have hb:=Ca (d:=d) (p.lit Y ho);have hlen:=p.arG Y ho (by omega);refine⟨λa b=>?_,λy hy=>?_,λa b a0 a1 b0 b1 hp W=>?_,?_,?_⟩;rw[oe (k:=.apc),V,p.aqL,p.aqL];have:=hb (rch d r).up ((h:Int) - (rch d r).delay);by_cases e:a=(rch d r).up/\b=(h:Int) - (rch d r).delay
 rw[if_pos e,if_pos (by rw[e.1,e.2]),e.1,e.2,aA (by omega) (by omega)];grind
 rcases amj.1 hy with hy|hy;obtain⟨g,gp⟩:=p.gate y hy;have O:(r:Int)<=y.index:=by grind [PR]
 refine⟨⟨g.out,g.i0,g.i1,g.h0,g.h1,by rw[E _ _ O];exact g.w,by rw[E _ _ O];exact g.v⟩,?_⟩;grind [PR]
 rw[aml]at hy;subst hy;have eh:y.hour+(rch d y.index).delay=h:=by grind
 refine⟨⟨xo,by omega,by omega,by omega,by omega,?_,?_⟩,?_⟩;grind
 grind
 grind [PR]
 have O:(r:Int)<=a:=by grind [PR]
 rw[E _ _ O]at W;by_cases hq:PR r h a b
 obtain⟨y,hy,e⟩:=p.all a b a0 a1 b0 b1 hq W;grind
 grind [PR]
 rw[al8];refine⟨p.uniq,amp _ _,λy hy z hz=>?_⟩;rw[aml]at hz;subst hz;rintro⟨e1,e2⟩;have:=(p.gate y hy).2;grind [PR]
 have:=p.len;grind
theorem Cc{out:List Order}(hr:aps d)(ho:apq d out):
  (∀ m,aj (bQ d out) out.length 0 []=.inr m->(∀ x∈out,x.W1=true)/\∀ a b,aL .apc .int m (a,b)=drw d out a b)/\okI (bQ d out) (jw d out) out.length 0 []/\((∀ x∈out,x.W1=true)->∃ m,aj (bQ d out) out.length 0 []=.inr m):=by
 let J:Nat->Mp->Prop:=λk m=>k<=out.length->(∀ x∈out.take k,x.W1=true)/\∀ a b,aL .apc .int m (a,b)=drw d (out.take k) a b
 have V:J 0 []:=λ_=>⟨by simp,λa b=>by rfl⟩;have hstep:∀ j s,0<=j->j<0+out.length->J j s->jw d out j s/\∀ s',bQ d out j s=.inr s'->J (j+1) s':=λj s _ X hJ=>by
  have X:j<out.length:=by omega
  obtain⟨h1,h2⟩:=hJ (by omega);have O:=ho.one j X;refine⟨λhe=>?_,λs' W _=>?_⟩;have:(out.getD j default).W1=true:=by grind
  have:=O.dd this;have:=O.aqB;omega;unfold bQ at W;cases E:(out.getD j default).W1 with
  |false=>grind
  |true=>
   rw[E]at W;simp only[alZ,cond_false,amr]at W;have Y:=my out default X;rw[amY X];refine⟨λx O=>?_,λa b=>?_⟩;grind
   subst W;rw[Rt,Ru,oe (k:=.apc),h2,h2,<-Y];have hb:=Ca (d:=d) (l:=out.take j) (λx O=>ho.lit x (ani O)) (d.l5.getD (out.getD j default).index.toNat default).reach (out.getD j default).hour;have hl:(out.take j).length<=4096:=by have:=ho.len;grind
   have hl1:=O.aqv;have hl2:=O.bo;rw[aA (by omega) (by omega)];unfold Rr;grind
 refine⟨λm hm=>?_,jk J _ _ _ V hstep,λU=>?_⟩;have:=sJ J _ _ _ V (λj s h1 h2 h3=>(hstep j s h1 h2 h3).2) m hm (by omega);grind
 cases hrun:aj (bQ d out) out.length 0 []with
 |inr m=>grind
 |inl y=>
  exfalso;have key:∀ n i s,i+n<=out.length->∀ y,aj (bQ d out) n i s≠ .inl y:=by
   intro n;induction n with
   |zero=>grind [aj]
   |succ n ih=>
    intro i s hi y h;simp only[aj]at h;have E:(out.getD i default).W1=true:=U _ (B_ _ _ (by omega));unfold bQ at h;rw[E]at h;simp only[alZ,cond_false]at h;exact ih (i+1) _ (by omega) y h
  grind
def PJ (d:ah)(out:List Order)(L:List (Int×Int))(s:List Order×Mp):Prop:= ∃ gs r h,r<d.reaches.length/\h<=d.hours.toNat/\s.1=out++gs/\L=Ho r d.hours.toNat h++Aj d.hours.toNat r/\PI d out gs s.2 r h
theorem Le{out:List Order}(V:aps d){x:Int×Int}{L:List (Int×Int)}{s:List Order×Mp}(h:PJ d out (x::L) s):∃ (E:List Order) (r h:Nat),r<d.reaches.length/\h<d.hours.toNat/\s.1=out++E/\x=((r:Int),(h:Int))/\L=Ho r d.hours.toNat (h+1)++Aj d.hours.toNat r/\PI d out E s.2 r h:=by
 obtain⟨E,r,h,h1,h2,W,O,X⟩:=h;have U:=V.aqx;by_cases Y:h<d.hours.toNat
 grind [uK]
 have:h=d.hours.toNat:=by omega
 subst this;rw[Fb,alR]at O;cases r with
 |zero=>simp[Aj]at O
 |succ r=>
  rw[Al,uK (by omega),al7]at O;cases O;exact⟨E,r,0,by omega,by omega,W,rfl,rfl,X.row h1 U⟩
theorem Jj{out:List Order}(U:aps d)(Y:apq d out)(O:r<d.reaches.length)(X:h<d.hours.toNat){s:List Order×Mp}(hs:s.1=out++E)(p:PI d out E s.2 r h):
  (drw d (out++E) r h=0/\bR d ((r:Int),(h:Int)) s=.inr s)\/
  (1<=drw d (out++E) r h/\((bI (rch d r) (drw d (out++E) r h)).2=false\/(h:Int) < (rch d r).delay)/\bR d ((r:Int),(h:Int)) s=.inl s.2)\/
  ∃ v,1<=drw d (out++E) r h/\bI (rch d r) (drw d (out++E) r h)=(v,true)/\(rch d r).delay<=h/\1<=v/\v<=1073741824/\
   bR d ((r:Int),(h:Int)) s=.inr (out++(E++[{ hour:=(h:Int) - (rch d r).delay,index:=r,bo:=v,W1:=false}]),dH .apc .int s.2 ((rch d r).up,(h:Int) - (rch d r).delay) (i64.wrap (aL .apc .int s.2 ((rch d r).up,(h:Int) - (rch d r).delay)+v))):=by
 have hb:=(Ca (d:=d) (p.lit U Y) r h).1;have hm:=p.aqL r h;have V:=Cb U O;have hH:=U.hours;by_cases h0:drw d (out++E) r h=0
 grind [bR]
 have h1:1<=drw d (out++E) r h:=by omega
 have hne:(aL .apc .int s.2 ((r:Int),(h:Int)) ==0)=false:=by grind
 have hw:i64.wrap ((h:Int) - (rch d r).delay)=(h:Int) - (rch d r).delay:=aA (by omega) (by omega);by_cases hd:(h:Int) < (rch d r).delay
 refine .inr (.inl ⟨h1,.inr hd,?_⟩);unfold bR;grind
 rcases Ji (i:=(r:Int)) (by omega) (U.reach r O) h1 with⟨v,e,e1,W,e3,e4,e5⟩ | ⟨e,_⟩;refine .inr (.inr ⟨v,h1,e,by omega,e1,W,?_⟩);have e':bI (d.reaches.getD r default) (aL .apc .int s.2 ((r:Int),(h:Int)))=(v,true):=by grind
 unfold bR;grind
 refine .inr (.inl ⟨h1,.inl e,?_⟩);have e':(bI (d.reaches.getD r default) (aL .apc .int s.2 ((r:Int),(h:Int)))).2=false:=by grind
 unfold bR;grind
theorem Rv{out:List Order}(W:aps d)(ho:apq d out)(x:Int×Int)(L:List (Int×Int))(s:List Order×Mp)(V:PJ d out (x::L) s):∀ s',bR d x s=.inr s'->PJ d out L s':=by
 obtain⟨gs,r,h,h1,h2,h3,rfl,h5,X⟩:=Le W V;intro s' E;rcases Jj W ho h1 h2 h3 X with⟨U,O⟩ | ⟨U,O,Y⟩ | ⟨v,U,O,Y,q3,q4,q5⟩;rw[O]at E;cases E;exact⟨gs,r,h+1,h1,h2,h3,h5,X.skip U⟩;grind
 rw[q5]at E;cases E;exact⟨_,r,h+1,h1,h2,rfl,h5,X.add W ho h1 h2 U O Y q3 q4⟩
theorem NR{out:List Order}(E:aps d)(O:∀ a b,aL .apc .int m (a,b)=drw d out a b):PJ d out (dz d) (out,m):=by
 have h1:=E.one;refine⟨[],d.reaches.length - 1,0,by omega,ame _,by simp,?_,⟨by grind,by simp,λa b a0 a1 U V W=>?_,List.Pairwise.nil,by simp⟩⟩;unfold dz;rw[<-Al,show d.reaches.length - 1+1=d.reaches.length by omega];grind [PR]
structure aq2 (d:ah)(out gs:List Order):Prop where
 gate:∀ x∈gs,PG d (out++gs) x
 all:∀ a b,0<=a->a< (d.reaches.length:Int)->0<=b->b<d.hours->drw d (out++gs) a b≠0->∃ x∈gs,x.index=a/\x.hour+(rch d a).delay=b
 uniq:gs.Pairwise λx y=>¬ (x.index=y.index/\x.hour=y.hour)
 len:gs.length<=d.reaches.length*d.hours.toNat
theorem adn{out:List Order}(Y:aps d){s:List Order×Mp}(h:PJ d out [] s):∃ E,s.1=out++E/\aq2 d out E:=by
 obtain⟨E,r,h,h1,h2,h3,h4,O⟩:=h;have hH:=Y.aqx;have V:h=d.hours.toNat:=by
  grind [uK]
 subst V;rw[Fb,alR]at h4;have r0:r=0:=by
  cases r with
  |zero=>rfl|succ r=>grind [Al,uK]
 subst r0;refine⟨E,h3,⟨λx W=>(O.gate x W).1,λa b a0 a1 b0 X U=>O.all a b a0 a1 b0 X ?_ U,O.uniq,?_⟩⟩;unfold PR;omega;have:=O.len;have e:d.reaches.length=(d.reaches.length - 1 - 0)+1:=by omega
 grind [Nat.succ_mul]
structure PX (d:ah)(out gs:List Order)(r h:Nat):Prop where
 part:∃ m,PI d out gs m r h
 r1:r<d.reaches.length
 h1:h<d.hours.toNat
 w:1<=drw d (out++gs) r h
 no:(bI (rch d r) (drw d (out++gs) r h)).2=false\/(h:Int) < (rch d r).delay
theorem GJ{out:List Order}(E:aps d)(W:apq d out)(hm:∀ a b,aL .apc .int m (a,b)=drw d out a b):
  ((∃ s,di (bR d) (dz d) (out,m)=.inr s/\∃ U,s.1=out++U/\aq2 d out U)\/∃ y,di (bR d) (dz d) (out,m)=.inl y/\∃ U r h,PX d out U r h)/\
  okL (bR d) (ia d) (dz d) (out,m):=by
 obtain⟨h1,h2⟩:=GI (PJ d out) (λx L s h=>Rv E W x L s h) (dz d) (out,m) (NR E hm);refine⟨?_,Ld (PJ d out) (λx L s h=>⟨?_,Rv E W x L s h⟩) _ _ (NR E hm)⟩;cases O:di (bR d) (dz d) (out,m)with
 |inr s=>exact .inl ⟨s,rfl,adn E (h1 s O)⟩
 |inl y=>
  refine .inr ⟨y,rfl,?_⟩;obtain⟨x,L,s,g1,g2⟩:=h2 y O;obtain⟨U,r,h,X,Y,q3,rfl,q5,V⟩:=Le E g1;rcases Jj E W X Y q3 V with⟨_,e⟩ | ⟨e0,e1,_⟩ | ⟨v,_,_,_,_,_,e⟩;grind
  exact⟨U,r,h,⟨_,V⟩,X,Y,e0,e1⟩;grind
 obtain⟨U,r,h,X,Y,q3,rfl,q5,V⟩:=Le E h;unfold ia;simp only;refine λ_=>⟨⟨by omega,by omega⟩,WE _ _,λ_=>?_⟩;have:=V.arG E W (by omega);grind [dI]
end Go.Sx
end
section
namespace Go.Sx
open Go.Lib Go.Proofs Go.Shelf Go.Sort
open IntKind (i64)
def K (x y:Order):Prop:=x.hour=y.hour/\x.index=y.index/\x.W1=y.W1
variable {x y:Order}
theorem K.symm(h:K x y):K y x:=⟨h.1.symm,h.2.1.symm,h.2.2.symm⟩
theorem WI(h:AM x=AM y):x.W1=y.W1:=by
 grind [AM]
theorem DX(h1:¬olt x y)(h2:¬olt y x):K x y:=by
 have e:x.hour=y.hour/\x.index=y.index/\AM x=AM y:=by grind [olt]
 exact⟨e.1,e.2.1,WI e.2.2⟩
theorem ado(h:olt x y):¬K x y:=λ⟨h1,h2,E⟩ =>by
 grind [AM,olt]
variable {l:List Order}
theorem Rw(h:l.Pairwise λx y=>¬K x y)(E:x∈l)(hy:y∈l)(U:K x y):x=y:=by
 obtain⟨i,hi,rfl⟩:=amm E;obtain⟨j,O,rfl⟩:=amm hy;rw[amh]at h;rcases Nat.lt_trichotomy i j with q|q|q;grind
 subst q;rfl;exact absurd U.symm (h j i O hi q)
theorem WJ(h:l.Pairwise λx y=>¬K x y):apart aO l:=λx E y hy h1 h2=>by
 refine Rw h E hy (DX (λq=>?_) λq=>?_);unfold ltOf at h1;rw[decide_eq_false_iff_not]at h1;exact h1 ((NL _ _).2 q);unfold ltOf at h2;rw[decide_eq_false_iff_not]at h2;exact h2 ((NL _ _).2 q)
def AO (l:List Order):(srt aO l).Perm l:=amE _ _
def qx{m:List Order}(h:l.Perm m)(E:m.Pairwise λx y=>¬K x y):l.Pairwise λx y=>¬K x y:=
 (h.pairwise_iff (λ{x y} (h:¬K x y) (k:K y x) =>h k.symm)).2 E
theorem adp(h:l.Pairwise λx y=>¬K x y):(srt aO l).Pairwise olt:=by
 have h1:(srt aO l).Pairwise λx y=>(!(ltOf aO y x))=true:=by
  refine amz (λa b c h1 h2=>?_) (λa b=>?_) l;simp only[al0]at h1 h2 |-;exact vO.ntrans _ _ _ h2 h1;cases q:ltOf aO b a with
  |false=>rfl
  |true=>
   cases E:ltOf aO a b with
   |false=>rfl|true=>have:=vO.trans _ _ _ q E;rw[vO.irrefl]at this;cases this
 have h2:=qx (AO l) h;refine(h1.and h2).imp λ{x y} ⟨V,E⟩ =>?_;have O:¬olt y x:=λq=>by
  have:ltOf aO y x=true:=by unfold ltOf;rw[decide_eq_true_eq];exact(NL _ _).2 q
  grind
 exact amg λU=>E (DX U O)
structure aqd (d:ah)(l:List Order):Prop where
 chk:aw d=0
 len:l.length<=4096
 one:∀ x∈l,aqA d x
 asc:l.Pairwise olt
variable {d:ah}
theorem aqd.right(h:aqd d l):aps d:=jt (by rw[h.chk];rfl)
theorem Zr(h:ed d l=0):aqd d l:=by
 have E:=GB (d:=d) (l:=l) (by rw[h];rfl);refine⟨((yS d l).1 h).1,E.len,λx U=>?_,amh.2 λi j hi V O=>?_⟩;obtain⟨i,hi,rfl⟩:=amm U;have:=E.one i hi;grind
 have:=E.lt j i O V;grind
theorem aqd.aqp(h:aqd d l):apq d l:=by
 refine⟨h.right,h.len,λk E=>?_,λk E=>?_⟩;rw[my _ _ E];exact h.one _ (amA _);rw[my _ _ E,my _ _ (by omega:k<l.length)];exact(NL _ _).2 (amh.1 h.asc _ _ _ _ (by omega))
theorem aqd.keys(h:aqd d l):l.Pairwise λx y=>¬K x y:=h.asc.imp λ{_ _} q=>ado q
theorem WK(h:aqd d l):ed d l=0:=by
 refine(yS d l).2 ⟨h.chk,h.len,λk V=>?_⟩;have E:=h.one _ (B_ l default V);have O:(decide ((k:Int) > 0)&&decide (aO (l.getD (i64.wrap ((k:Int) - 1)).toNat default) (l.getD k default)>=0))=false:=by
  rw[amH,decide_eq_false_iff_not,decide_eq_false_iff_not];by_cases hk0:0<k
  right;have W:=h.len;rw[od (by omega) hk0,alI];have:=h.aqp.asc (k - 1) (by omega);grind
  omega
 unfold iJ;rw[O];generalize l.getD k default=x at E;cases U:x.W1 with
 |true=>
  have:=E.dd U;simp only[cond_true];have e:(decide (x.hour<0) ||decide (x.hour>=d.hours) ||decide (x.index<0) ||decide (x.index>=(d.l5.length:Int)) ||decide (x.bo<1) ||decide (x.bo > 1073741824) ||false)=false:=by
   have:=E.arb;have:=E.hour;have:=E.aqB;have:=E.aqv;have:=E.bo;grind
  rw[e];rfl
 |false=>
  have:=E.reach U;simp only[cond_false];have e:(decide (x.hour<0) ||decide (x.hour>=d.hours) ||decide (x.index<0) ||decide (x.index>=(d.reaches.length:Int)) ||decide (x.bo<1) ||decide (x.bo > 1073741824) ||false)=false:=by
   have:=E.arb;have:=E.hour;have:=E.aqB;have:=E.aqv;have:=E.bo;grind
  rw[e];rfl
structure Nar (d:ah)(l:List Order):Prop where
 good:aqd d l
 wide:(d.reaches.length:Int)*d.hours<=1024
theorem Jk(E:aps d):0<=(d.reaches.length:Int)*d.hours/\(d.reaches.length:Int)*d.hours<=262144:=by
 have:=E.reaches;have:=E.hours;have:=E.aqx;have h1:=Int.mul_le_mul (by omega:(d.reaches.length:Int)<=64) E.hours (by omega) (by omega);have h2:=anG (by omega:0<=(d.reaches.length:Int)) (by omega:0<=d.hours);omega
theorem zy (d:ah)(l:List Order):dR d l=0↔Nar d l:=by
 unfold dR;by_cases h:ed d l=0
 have E:=Zr h;have O:=Jk E.right;rw[aA (by omega) (by omega),h];by_cases hw:(d.reaches.length:Int)*d.hours > 1024
 rw[decide_eq_true hw];simp only[beq_self_eq_true,Bool.and_self,cond_true];exact⟨λe=>(by cases e),λe=>(by have:=e.wide;omega)⟩;rw[decide_eq_false hw];simp only[Bool.and_false,cond_false];exact⟨λ_=>⟨E,by omega⟩,λ_=>trivial⟩;have:(ed d l==0)=false:=by grind
 rw[this];simp only[Bool.false_and,cond_false];exact⟨λe=>absurd e h,λe=>absurd (WK e.good) h⟩
structure PL (d:ah)(out gs:List Order):Prop where
 good:aqd d (srt aO (out++gs))
 fin:aq2 d out gs
variable {O:List Order}
theorem NS{out:List Order}(U:aqd d out)(E:∀ x∈out,x.W1=true)(h:aq2 d out O):(out++O).Pairwise λx y=>¬K x y:=by
 rw[al8];refine⟨U.keys,h.uniq.imp λ{x y} q k=>q ⟨k.2.1,k.1⟩,λx V y hy k=>?_⟩;have:=k.2.2;rw[E x V,(h.gate y hy).out]at this;cases this
theorem Zs{out:List Order}(E:aqd d out)(h:aq2 d out O):∀ x∈out++O,aqA d x:=λx hx=>by
 rcases amj.1 hx with hx|hx;exact E.one x hx;have g:=h.gate x hx;have U:=NQ E.right g;have hd:=Cb E.right (r:=x.index.toNat) (by have:=g.i0;have:=g.i1;omega);rw[show((x.index.toNat:Nat):Int)=x.index from anm g.i0]at hd;have:=g.h1;exact⟨g.h0,by omega,g.i0,λe=>(by rw[g.out]at e;cases e),λ_=>g.i1,U.1,U.2.1⟩
theorem P4 (d:ah)(out:List Order):
  (dR d out≠0/\aR d out=([],false,dR d out))\/
  (Nar d out/\¬ (∀ x∈out,x.W1=true)/\aR d out=([],false,220))\/
  (Nar d out/\(∀ x∈out,x.W1=true)/\(∃ O r h,PX d out O r h)/\aR d out=([],false,0))\/
  (Nar d out/\(∀ x∈out,x.W1=true)/\∃ O,aq2 d out O/\4096< (out++O).length/\aR d out=([],false,2))\/
  (Nar d out/\(∀ x∈out,x.W1=true)/\∃ O,PL d out O/\aR d out=(srt aO (out++O),true,0)):=by
 unfold aR;by_cases hn:dR d out=0
 have U:=(zy d out).1 hn;have X:=U.good.right;have Y:=U.good.aqp;rw[hn];simp only[bne_self_eq_false,cond_false];obtain⟨f1,_,f3⟩:=Cc X Y;by_cases E:∀ x∈out,x.W1=true
 obtain⟨m,hm⟩:=f3 E;rw[hm];simp only;obtain⟨h1,_⟩:=GJ X Y (f1 m hm).2;rcases h1 with⟨s,hs,O,e1,V⟩ | ⟨y,hy,W⟩;rw[hs];simp only[e1];by_cases hl:(out++O).length<=4096
 rw[decide_eq_false (by omega)];refine .inr (.inr (.inr (.inr ⟨U,E,O,⟨⟨U.good.chk,?_,λx W=>Zs U.good V x ((AO _).mem_iff.1 W),adp (NS U.good E V)⟩,V⟩,rfl⟩)));rw[(AO _).length_eq];exact hl;grind
 grind
 grind
 grind
def WL (d:ah)(l:List Order):mC d l:=PZ d l
theorem adq (d:ah)(out:List Order):o_ d out:=by
 refine⟨WL _ _,λhn=>?_⟩;have U:=(zy d out).1 (by grind);have O:=U.good.right;have V:=U.good.aqp;obtain⟨X,f2,f3⟩:=Cc O V;refine λ_=>⟨f2,λm Y=>⟨?_,?_,?_⟩⟩;have:=V.len;unfold dI;omega;have:=O.hours;omega;obtain⟨h1,h2⟩:=GJ O V (X m Y).2;refine⟨h2,λs W _ _=>?_⟩;rcases h1 with⟨s',E,gs,e1,e2⟩ | ⟨y,hy,_⟩;rw[E]at W;cases W;rw[e1];exact WJ (NS U.good (X m Y).1 e2);grind
end Go.Sx
end
section
namespace Go.Sx
open Go.Proofs
variable {κ υ:Type}[DecidableEq κ]in
theorem NT:∀ (l:List (κ×υ)) (x:κ) (y:υ) (e:κ×υ),e∈tA l x y->e=(x,y)\/e∈l
 | [],x,y,e,h=>by grind [tA]
 |(a,b)::r,x,y,e,h=>by
  unfold tA at h;by_cases q:x=a
  grind
  rw[if_neg q]at h;rcases alV.1 h with h|h;grind
  rcases NT r x y e h with h|h <;>grind
variable {κ υ:Type}[DecidableEq κ]in
theorem Jl:∀ (l:List (κ×υ)) (x:κ) (y:υ),iv l x=some y->(x,y)∈l
 |(a,b)::r,x,y,h=>by
  unfold iv at h;by_cases q:x=a
  grind
  rw[if_neg q]at h;exact al2 _ (Jl r x y h)
variable {κ υ:Type}[DecidableEq κ]in
theorem P5 {l:List (κ×υ)}(h:(l.map Prod.fst).Nodup)(x:κ)(y:υ):((tA l x y).map Prod.fst).Nodup:=by
 grind [zw]
structure SM (k:Tag)(f:k.T->Int)(m:List (k.T×Int)):Prop where
 get:∀ p,aL k .int m p=f p
 nd:(m.map Prod.fst).Nodup
 pos:∀ e∈m,1<=e.2
variable {k:Tag}
theorem SM.nil:SM k (λ_=>0) []:=⟨λ_=>rfl,amV,λ_ h=>by cases h⟩
variable {f:k.T->Int}{m:List (k.T×Int)}
theorem SM.put(h:SM k f m)(x:k.T){v:Int}(E:1<=v){g:k.T->Int}(O:∀ p,g p=if p=x then v else f p):SM k g (dH k .int m x v):=by
 refine⟨λp=>?_,P5 h.nd x v,λe he=>?_⟩;rw[oe,h.get,O];rcases NT (υ:=Int) m x v e he with rfl|he;exact E;exact h.pos e he
theorem SM.entry(h:SM k f m){e:k.T×Int}(O:e∈m):e.2=f e.1/\1<=f e.1:=by
 have h1:=NM m e h.nd O;have h2:=h.get e.1;unfold aL at h2;rw[h1]at h2;have E:e.2=f e.1:=h2;exact⟨E,E▸h.pos e O⟩
theorem SM.mem(h:SM k f m){p:k.T}(U:f p≠0):(p,f p)∈m:=by
 have h2:=h.get p;unfold aL at h2;cases E:iv m p with
 |none=>rw[E]at h2;exact absurd h2.symm U
 |some v=>
  rw[E]at h2;have O:v=f p:=h2;exact O▸Jl m p v E
theorem Lf {ρ σ:Type}{step:Nat->σ->ρ⊕σ}(J:Nat->σ->Prop):∀ (n i:Nat) (s:σ),J i s->(∀ j s,i<=j->j<i+n->J j s->∃ s',step j s=.inr s'/\J (j+1) s')->∃ s',aj step n i s=.inr s'/\J (i+n) s'
 |0,i,s,h,_=>⟨s,rfl,h⟩
 |n+1,i,s,h,hs=>by
  obtain⟨s1,U,h1⟩:=hs i s (alJ _) (by omega) h;obtain⟨E,O,h2⟩:=Lf J n (i+1) s1 h1 λj s a b=>hs j s (by omega) (by omega);grind [aj]
end Go.Sx
end
section
namespace Go.Sx
open Go.Proofs
open IntKind (i64)
theorem Tg (d:ah)(c:List Claim):oR d c:=λ_ h1 _ _=>gX _ _ _ λj s h2 E=>by
 unfold aH at h1;unfold ld;refine⟨λh=>?_,λh=>?_,λ_ h=>?_⟩;grind
 grind
 simp only[decide_eq_true_eq]at h;grind [od]
theorem Lg (d:ah)(c:List Claim):d7 d c=0↔aw d=0/\c.length<=4096/\∀ k,k<c.length->i9 d c k ()=.inr ():=by
 unfold d7;cases h1:(aw d !=0)with
 |true=>grind
 |false=>
  simp at h1;simp only[cond_false,h1,true_and];grind [gP]
def Lh (a b:Claim):Prop:=a.hour<b.hour\/a.hour=b.hour/\(a.ao8<b.ao8\/a.ao8=b.ao8/\(a.right<b.right\/a.right=b.right/\a.dd<b.dd))
theorem P6 {a b c:Claim}(h1:Lh a b)(h2:Lh b c):Lh a c:=by
 grind [Lh]
theorem adr (a b c d:Int):fU [a,b,c,d]=if a≠0 then a else if b≠0 then b else if c≠0 then c else d:=by
 unfold fU;simp only[alL,alS,alQ,Nat.reduceAdd,aj,ru,an8,List.getD_cons_succ];grind
theorem Th (a b:Claim):cN a b<0↔Lh a b:=by
 grind [cN,Lh,adr,jr]
def okC (d:ah)(a:Claim):Bool:=letI q0:=d.ai.getD a.right.toNat default;(((((((((decide (a.right>=0))&&(decide (a.right< (d.ai.length:Int))))&&(decide (a.dd>=0)))&&(decide (a.dd< (d.l5.length:Int))))&&(decide (a.hour>=0)))&&(decide (a.hour<d.hours)))&&(decide (a.bo>=1)))&&(decide (a.bo<=1073741824))))&&(q0.kind==1)&&(q0.ao8==a.ao8)
variable {d:ah}
theorem CW{c:List Claim}{k:Nat}(V:k<4096):i9 d c k ()=.inr ()↔okC d (c.getD k default)=true/\(0<k->Lh (c.getD (k - 1) default) (c.getD k default)):=by
 have hw:k > 0->(i64.wrap ((k:Int) - 1)).toNat=k - 1:=λh=>by grind [od]
 have E:∀ X:Bool,((bif X then Sum.inl ()else Sum.inr ()):Unit⊕Unit)=.inr ()↔X=false:=λX=>by grind
 unfold i9 okC;rw[E];generalize U:((((((((decide ((c.getD k default).right>=0))&&(decide ((c.getD k default).right< (d.ai.length:Int))))&&(decide ((c.getD k default).dd>=0)))&&(decide ((c.getD k default).dd< (d.l5.length:Int))))&&(decide ((c.getD k default).hour>=0)))&&(decide ((c.getD k default).hour<d.hours)))&&(decide ((c.getD k default).bo>=1)))&&(decide ((c.getD k default).bo<=1073741824)))=q;clear U;by_cases O:0<k
 rw[hw O,<-Th];grind
 simp_all
theorem mc (d:ah)(c:List Claim):d7 d c=0↔aw d=0/\c.length<=4096/\(∀ a∈c,okC d a=true)/\c.Pairwise Lh:=by
 rw[Lg];refine and_congr_right λ_=>and_congr_right λY=>?_;constructor
 intro h;have U:=λk E=>(CW (by omega)).1 (h k E);refine⟨λa W=>?_,?_⟩;obtain⟨k,E,rfl⟩:=amm W;grind
 have key:∀ (k j:Nat),j<k->k<c.length->Lh (c.getD j default) (c.getD k default):=by
  intro k;induction k with
  |zero=>omega
  |succ k V=>
   intro j h1 h2;have O:=(U (k+1) h2).2 (by omega);rw[aob]at O;by_cases e:j=k
   grind
   exact P6 (V j (by omega) (by omega)) O
 grind [List.pairwise_iff_getElem]
 rintro⟨h1,h2⟩ k E;refine(CW (by omega)).2 ⟨?_,λX=>?_⟩;grind
 rw[my _ _ E,my _ _ (by omega:k - 1<c.length)];exact amh.1 h2 _ _ _ _ (by omega)
def Cd (a:Claim):apk:= { hour:=a.hour,index:=a.dd,W1:=true}
def kn (p:apk):List Claim->Int
 | [] =>0|a::r=>(if p=Cd a then a.bo else 0)+kn p r
theorem NU (p:apk)(a b:List Claim):kn p (a++b)=kn p a+kn p b:=by
 induction a with
 |nil=>simp[kn]|cons x r E=>grind [kn]
theorem Ia (p:apk)(c:List Claim)(h:∀ a∈c,1<=a.bo/\a.bo<=1073741824):0<=kn p c/\kn p c<=c.length*1073741824:=by
 induction c with
 |nil=>simp[kn]
 |cons x r E=>
  have h1:=E λa O=>h a (al2 _ O);grind [kn]
theorem P7{a:Claim}(h:okC d a=true):1<=a.bo/\a.bo<=1073741824:=by
 simp_all [okC]
def ir (reach a b:Int)(x:Order):Bool:=(!x.W1&&x.index==reach)&&decide (x.hour>=a)&&decide (x.hour<=b)
def cell (g:List (List Int))(i j:Nat):Int:=(g.getD i []).getD j 0
variable {l:List Order}
theorem Ti(E:apq d l){j:Nat}(U:j<l.length){p:Order->Bool}(V:∀ x,p x=true->x.hour=l[j].hour/\x.index=l[j].index/\x.W1=l[j].W1):gk p (l.take j)=0:=
 x9 λx O=>by
  obtain⟨i,hi,rfl⟩:=amm O;rw[amT]at hi;rw[List.getElem_take];cases h:p l[i]with
  |false=>rfl
  |true=>
   obtain⟨Y,X,W⟩:=V _ h;have:=E.uniq (by omega) U Y X W;omega
theorem Rx(E:apq d l)(p:Order->Bool)(j:Nat):0<=gk p (l.take j)/\gk p (l.take j)<=4398046511104:=by
 have U:=GD (p:=p) λa O=>E.lit a (ani (i:=j) O);have V:=E.len;grind
theorem WN(E:apq d l)(p:Order->Bool):0<=gk p l/\gk p l<=4398046511104:=by
 have:=Rx E p l.length;grind
theorem WO(E:apq d l)(r:Int){a m b:Int}(h1:a<=m)(h2:m<=b+1):gk (ir r a (m - 1)) l+gk (ir r m b) l=gk (ir r a b) l:=Wy λx _=>by
 unfold ir;grind
@[go_sem] def c7 (c:List Claim)(Q1:Nat)(ly:List (ee×Int)):Empty⊕(List (ee×Int)):=letI q1:=c.getD Q1 default;letI q0:=({ index:=q1.dd,hour:=q1.hour}:ee);.inr (dH .bl .int ly q0 (i64.wrap ((aL .bl .int ly q0)+q1.bo)))
@[go_sem] def dX (ly:List (ee×Int))(k_1:ee×Int)(s_1:List Order):Empty⊕(List Order):=.inr (s_1++([({ hour:=k_1.1.hour,index:=k_1.1.index,bo:=k_1.2,W1:=true}:Order)]))
def fZ (ly:List (ee×Int))(k_1:ee×Int)(s_1:List Order):Prop:=((s_1++([({ hour:=k_1.1.hour,index:=k_1.1.index,bo:=k_1.2,W1:=true}:Order)])).length*32<=dI)
def aT (c:List Claim):List Order:=(match aj (c7 c) c.length 0 ([])with| .inl x=>x.elim| .inr ly=>(match di (dX ly) ly ([])with| .inl x=>x.elim| .inr s_1=>(srt ar s_1)))
def jL (c:List Claim):Prop:=(c.length<=aH->(∀ ly,aj (c7 c) c.length 0 ([])=.inr ly->(∀ L_1,L_1.Perm ly->(okL (dX ly) (fZ ly) L_1 ([])/\(∀ s_1,di (dX ly) L_1 ([])=.inr s_1->((apart ar s_1)/\((srt ar s_1)=(aT c))))))))
@[go_sem] def yr:List SV->Option Con:=(pR .x6 λc=>(pE (.det (jL c) (.nw .order (aT c)))))
theorem aia {p:Prop}(h:p:=by simp only[go_sem];all_goals exact clP):p:=h
theorem xy:zs Tryz.prog 164 yr:=by
 have hG:=mG C1 (co CV C1);refine fE hG Tryz.f164 (bD λc=>(am (λhp=>?_)));dsimp only[an]at hp;unfold jL at hp;refine⟨Y2 rfl,(λid st=>bif Nat.beq id 0 then some (LCR (ρ:=Empty) (σ:=(List (ee×Int))) 1 [] [0] (λW V=>⟨[(2,.v (.slice none 0 0)),(3,.os 0),(9,.rs .x6 c),(10,.v (.int .i64 (c.length:Int))),(11,.v (.int .i64 (W:Int)))],[.mp .bl .int V none]⟩) (c7 c) pT c.length ([]) (c.length<=aH) ((·.elim)) ((·.elim)) st)else bif Nat.beq id 2 then some (LCP (τ:=ee×Int) (ρ:=Empty) (σ:=(List Order)) 2 [.slot 2 (.row .order ([]))] [0,1,2] (λE O U=>⟨[(2,.os 2),(29,.ptr 1 0)],[.mp .bl .int (ci (aj (c7 c) c.length 0 ([]))) (some (1,none)),.mi (some 0) (ci (aj (c7 c) c.length 0 ([]))).length E O,.row .order U]⟩) (dX (ci (aj (c7 c) c.length 0 ([])))) (fZ (ci (aj (c7 c) c.length 0 ([])))) (ci (aj (c7 c) c.length 0 ([]))) ([]) ((·.elim)) ((·.elim)) (λU=>⟨[(2,.os 2)],[.dead,.dead,.row .order U]⟩) st)else none),?_,?_⟩
 ·unfold ae Tryz.f164;simp only[ak,true_and,and_true];refine⟨?_,?_⟩;refine bL mixed aB hG kr (λ_=>rfl) (c.length:Int) rfl fj (λhb0 W V aqw _ hw hc=>⟨L0,ag _,?_⟩) (λhb0 V hc=>?_);exact bB (jl [0]);exact bC (jl [0])
  ·refine MI (et .bl,et .int) 1 mixed aB hG kr (λ_=>rfl) λE O U Y=>⟨L0,ag _,?_⟩
   ·by_cases X:E=[]
    subst X;exact aaC (jl [0,1,5]) (jl [0,1,2])
    ·simp only[go_sem,X];intro j hj1;obtain⟨aqy,hq1⟩:=Y j hj1;unfold fZ at hq1;all_goals exact gj (jl [0,1,5]) (jl [0,1,2])
 unfold ae Tryz.f164;exact aia
@[go_sem] def bU (s_:List Order)(Q1:Nat)(ly:Unit):Int⊕Unit:=(bif(o9 (s_.getD Q1 default))then .inl (Q1:Int)else .inr ())
def dN (s_:List Order):Int:=(match aj (bU s_) s_.length 0 ()with| .inl gl=>gl| .inr ly=>(-1))
@[go_sem] def mf:List SV->Option Con:=(pR .order λs_=>(pFn 166 (pE ((pE (.det True (.v (.int .i64 (dN s_)))))))))
theorem lB:zs Tryz.prog 244 mf:=by
 have hG:=mG (cp xx C1) C1;refine fN hG Tryz.f244 [.o] (bD λO=>(mr (am ((am (λX=>?_))))));dsimp only[an]at X;refine⟨Y2 rfl,(λid st=>bif Nat.beq id 0 then some (LCR (ρ:=Int) (σ:=Unit) 0 [] [] (λU V=>⟨[(0,.rs .order O),(1,.fn 166 [] []),(7,.v (.int .i64 (O.length:Int))),(8,.v (.int .i64 (U:Int)))],[]⟩) (bU O) pT O.length () (O.length<=aH) (λ_=>.ret) (λE=>⟨[(4,.v (.int .i64 E))],[]⟩) st)else none),?_,?_⟩;unfold ae Tryz.f244;simp only[ak,true_and,and_true];refine bL mixed aB hG kr (λ_=>rfl) (O.length:Int) rfl fj (λhb0 U V W _ hw hc=>⟨L0,ag _,?_⟩) (λhb0 V hc=>?_);exact bB (jl []);exact bC (jl []);unfold ae Tryz.f244;try unfold dN
 exact zq2
def bw (s_:List Order):Bool:=(decide ((dN s_)>=0))
@[go_sem] def kH:List SV->Option Con:=(pR .order λs_=>(pFn 166 (pE ((pE (.det True (.v (.bool (bw s_)))))))))
theorem ko:zs Tryz.prog 165 kH:=by
 have hG:=mG (cn [.sl .order,.o] lB C1) C1;refine fN hG Tryz.f165 [.o] (bD λO=>(mr (am ((am (λE=>?_))))));dsimp only[an]at E;refine⟨Y2 rfl,L0,ag _,?_⟩;unfold ae Tryz.f165;try unfold bw
 exact zq2
def a7 (d:ah)(c:List Claim):List Order×Int:=letI q0:=aT c;(bif((d7 d c) !=0)then([],(d7 d c))else(bif(decide ((i64.wrap ((d.reaches.length:Int)*d.hours)) > 1024))then([],2)else(bif(bw q0)then([],270)else(q0,0))))
def lj (d:ah)(c:List Claim):Prop:=((oR d c)/\(((d7 d c) !=0)=false->(d.reaches.length<=aH->((decide ((i64.wrap ((d.reaches.length:Int)*d.hours)) > 1024))=false->(jL c)))))
@[go_sem] def AP:List SV->Option Con:=(pD .al λd=>(pR .x6 λc=>(pE (.det (lj d c) (.tup [.rs .order ((a7 d c).1),.v (.int .i64 ((a7 d c).2))])))))
theorem zz:zs Tryz.prog 108 AP:=by
 have hG:=mG (cn [.st .al,.sl .x6] Do (cn [.sl .x6] xy (cn [.sl .order,.o] ko C1))) C1;refine fN hG Tryz.f108 [.sl .order,.o] (ax λd=>(bD λc=>(am (λE=>?_))));dsimp only[an]at E;unfold lj at E;refine⟨Y2 rfl,L0,ag _,?_⟩;unfold ae Tryz.f108;try unfold a7
 exact zq2
end Go.Sx
end
section
namespace Go.Sx
open Go.Lib Go.Proofs Go.Shelf Go.Sort
def oP (f h:Int):apk:= { hour:=h,index:=f,W1:=true}
def Ce (c:List Claim)(f h:Int):Int:=kn (oP f h) c
def aqK (c:List Claim):Prop:=c.length<=4096/\∀ a∈c,1<=a.bo/\a.bo<=1073741824
variable {c:List Claim}
theorem Tj{j:Nat}(E:j<c.length)(f h:Int):Ce (c.take (j+1)) f h=Ce (c.take j) f h+(if oP f h=Cd c[j]then c[j].bo else 0):=by
 unfold Ce;rw[amY E,NU];simp[kn]
theorem Zt(h:aqK c)(f t:Int):0<=Ce c f t/\Ce c f t<=4398046511104:=by
 have h1:=Ia (oP f t) c h.2;have h2:=h.1;grind [Ce]
theorem aqK.take(h:aqK c)(j:Nat):aqK (c.take j):=⟨by rw[amT];have:=h.1;omega,λa E=>h.2 a (ani E)⟩
theorem WP {k:Tag}(m:List (k.T×Int))(x:k.T)(y:Int):(dH k .int m x y).length<=m.length+1:=by
 have:=congrArg List.length (zw m x y);rw[amM]at this;show(tA m x y).length<=_;grind
theorem Ry(h:aqK c):∃ m,aj (c7 c) c.length 0 []=.inr m/\SM .bl (λp=>Ce c p.index p.hour) m/\m.length<=c.length:=by
 obtain⟨m,e,U,W⟩:=Lf (step:=c7 c) (λj m=>SM .bl (λp=>Ce (c.take j) p.index p.hour) m/\m.length<=j) c.length 0 [] ⟨by simpa[Ce,kn]using SM.nil,alJ _⟩ (λj m _ E ⟨U,W⟩ =>by
  have E:j<c.length:=by omega
  refine⟨_,rfl,?_,alW (WP _ _ _) (by omega)⟩;rw[my _ _ E];have h1:=Zt (h.take j) c[j].dd c[j].hour;have h2:=h.2 _ (amA E);have V:=U.get ({ index:=c[j].dd,hour:=c[j].hour}:ee);simp only at V;refine U.put _ (v:=_) ?_ λp=>?_;grind [aA]
  rw[V,aA (by omega) (by omega),Tj E];by_cases O:p=({ index:=c[j].dd,hour:=c[j].hour}:ee)
  subst O;rw[if_pos rfl,if_pos (by rfl)];rw[if_neg O,if_neg (λq=>O (by
   unfold oP Cd at q;simp only[apk.mk.injEq]at q;obtain⟨a,b⟩:=p;grind))]
  omega)
 simp_all
def toO (e:ee×Int):Order:= { hour:=e.1.hour,index:=e.1.index,bo:=e.2,W1:=true}
theorem AQ (m:List (ee×Int)):∀ (L:List (ee×Int)) (s:List Order),di (dX m) L s=.inr (s++L.map toO)
 | [],s=>by simp[di]
 |x::L,s=>by
  have e:dX m x s=.inr (s++[toO x]):=rfl;simp only[di,e];rw[AQ m L];simp
theorem Jm (m:List (ee×Int)):∀ (L:List (ee×Int)) (s:List Order),s.length+L.length<=100000->okL (dX m) (fZ m) L s
 | [],s,_=>trivial
 |x::L,s,h=>by
  have e:dX m x s=.inr (s++[toO x]):=rfl;rw[alL]at h;refine⟨?_,λs' E=>?_⟩;grind [fZ,dI]
  rw[e]at E;simp only[amr]at E;subst E;exact Jm m L _ (by simp;omega)
theorem GK {m:List (ee×Int)}(h:(m.map Prod.fst).Nodup):(m.map toO).Pairwise λx y=>¬K x y:=by
 rw[anC];unfold List.Nodup at h;rw[anC]at h;refine h.imp λ{a b} q k=>q ?_;obtain⟨⟨a1,O⟩,V⟩:=a;obtain⟨⟨U,E⟩,W⟩:=b;have h1:O=E:=k.1;have h2:a1=U:=k.2.1;rw[h1,h2]
theorem GL {x y:Order}(E:x.W1=true)(hy:y.W1=true):Tf x y↔olt x y:=by
 grind [Tf,olt,AM,Lc]
theorem sr (l:List Order):(srt ar l).Perm l:=amE _ _
variable {l:List Order}
theorem Li(X:∀ x∈l,x.W1=true)(h:l.Pairwise λx y=>¬K x y):(srt ar l).Pairwise olt:=by
 have h1:(srt ar l).Pairwise λx y=>(!(ltOf ar y x))=true:=by
  refine amz (λa b c h1 h2=>?_) (λa b=>?_) l;simp only[al0]at h1 h2 |-;exact j9.ntrans _ _ _ h2 h1;cases q:ltOf ar b a with
  |false=>rfl
  |true=>
   cases O:ltOf ar a b with
   |false=>rfl|true=>have:=j9.trans _ _ _ q O;rw[j9.irrefl]at this;cases this
 have h2:=qx (sr l) h;have V:∀ x∈srt ar l,x.W1=true:=λx W=>X x ((sr l).mem_iff.1 W);rw[amh]at h1 h2 |-;intro i j hi U E;have q1:=h1 i j hi U E;have O:=h2 i j hi U E;have Y:¬olt (srt ar l)[j] (srt ar l)[i]:=λq=>by
  have:ltOf ar (srt ar l)[j] (srt ar l)[i]=true:=by
   unfold ltOf;rw[decide_eq_true_eq];exact(vQ _ _).2 ((GL (V _ (amA _)) (V _ (amA _))).2 q)
  grind
 exact amg λq4=>O (DX q4 Y)
theorem Zu{m:List Order}(O:∀ x∈l,x.W1=true)(h:l.Pairwise λx y=>¬K x y)(E:m.Perm l):srt ar m=srt ar l:=by
 have V:∀ x∈m,x.W1=true:=λx U=>O x (E.mem_iff.1 U);exact amJ (λa b _ _ h1 h2=>absurd h2 (λh2=>by grind [olt])) (Li V (qx E h)) (Li O h) ((sr m).trans (E.trans (sr l).symm))
theorem ads(E:∀ x∈l,x.W1=true)(h:l.Pairwise λx y=>¬K x y):apart ar l:=λx O y hy h1 h2=>by
 refine Rw h O hy (DX (λq=>?_) λq=>?_);unfold ltOf at h1;rw[decide_eq_false_iff_not]at h1;exact h1 ((vQ _ _).2 ((GL (E x O) (E y hy)).2 q));unfold ltOf at h2;rw[decide_eq_false_iff_not]at h2;exact h2 ((vQ _ _).2 ((GL (E y hy) (E x O)).2 q))
theorem Lj (m:List (ee×Int)):∀ x∈m.map toO,x.W1=true:=λx E=>by
 obtain⟨e,_,rfl⟩:=anh.1 E;rfl
theorem GM {p:apk}:∀ {c:List Claim},kn p c≠0->∃ a∈c,p=Cd a
 | [],h=>absurd rfl h
 |a::r,h=>by
  by_cases q:p=Cd a
  grind
  simp only[kn,if_neg q,Int.zero_add]at h;obtain⟨b,E,e⟩:=GM h;grind
structure aru (c:List Claim)(o:List Order):Prop where
 out:∀ x∈o,x.W1=true
 asc:o.Pairwise olt
 lit:∀ x∈o,x.bo=Ce c x.index x.hour/\1<=x.bo
 all:∀ f h,Ce c f h≠0->∃ x∈o,x.index=f/\x.hour=h
 src:∀ x∈o,∃ a∈c,a.dd=x.index/\a.hour=x.hour
 len:o.length<=c.length
theorem outs(h:aqK c):aru c (aT c):=by
 obtain⟨m,e,U,Y⟩:=Ry h;have X:aT c=srt ar (m.map toO):=by
  grind [aT,AQ]
 rw[X];have E:∀ x,x∈srt ar (m.map toO)↔∃ q∈m,toO q=x:=λx=>by grind [sr]
 have lit:∀ x∈srt ar (m.map toO),x.bo=Ce c x.index x.hour/\1<=x.bo:=λx O=>by
  obtain⟨q,V,rfl⟩:=(E x).1 O;have:=U.entry V;exact⟨this.1,U.pos q V⟩
 refine⟨λx O=>?_,Li (Lj m) (GK U.nd),lit,λf t W=>?_,λx O=>?_,?_⟩;obtain⟨q,V,rfl⟩:=(E x).1 O;rfl;exact⟨_,(E _).2 ⟨_,U.mem (p:= { index:=f,hour:=t}) W,rfl⟩,rfl,rfl⟩;have h1:=lit x O;obtain⟨a,ha,ea⟩:=GM (p:=oP x.index x.hour) (c:=c) (by show Ce c _ _≠0;omega);grind [oP,Cd]
 rw[(sr _).length_eq,amM];exact Y
theorem Tk(h:aqK c):jL c:=by
 intro _ m U L V;obtain⟨X,e,E,hn⟩:=Ry h;rw[e]at U;simp only[amr]at U;subst U;have W:=V.length_eq;have h1:=h.1;refine⟨Jm _ L [] (by simp;omega),λs O=>?_⟩;rw[AQ]at O;simp only[alR,amr]at O;subst O;have Y:(L.map toO).Perm (X.map toO):=V.map _;refine⟨ads (Lj L) (qx Y (GK E.nd)),?_⟩;rw[Zu (Lj X) (GK E.nd) Y];grind [aT,AQ]
end Go.Sx
end
section
namespace Go.Sx
open Go.Proofs
open IntKind (i64)
@[go_sem] def iy (x:T1):List SV:=[.agg (cellsOf .fault x)]
@[go_sem] def Cf:List SV->Option Con:=(pD .al λd=>(pR .order λout=>(pE (.det True (.fn 174 [] [.ep [.rs .order out] 0,.ep (cellsOf .al d) 0])))))
theorem AR:zs Tryz.prog 111 Cf:=by
 have hG:=mG C1 C1;refine fN hG Tryz.f111 [.o] (ax λd=>(bD λout=>(am (λE=>?_))));refine⟨Y2 rfl,L0,ag _,?_⟩;unfold ae Tryz.f111;simp only[go_sem,oA,oB,Nat.reduceBEq,Nat.reduceLeDiff,Nat.reduceAdd,Nat.reduceSub,Nat.reduceMul]
@[go_sem] def ga (out:List Order)(d:ah)(Q1:Nat)(ly:List (ee×Int)):Empty⊕(List (ee×Int)):=letI q1:=out.getD Q1 default;letI q0:=({ index:=(d.l5.getD (Int.toNat (q1.index)) default).reach,hour:=q1.hour}:ee);.inr (dH .bl .int ly q0 (i64.wrap ((aL .bl .int ly q0)+q1.bo)))
def iV (out:List Order)(d:ah)(Q1:Nat)(ly:List (ee×Int)):Prop:=(0<=(out.getD Q1 default).index/\(out.getD Q1 default).index< (d.l5.length:Int))
@[go_sem] def aZ (d:ah)(s_1:List T1×List (ee×Int)×List (ee×Bool)×Int)(k_2:Nat)(s_2:List (ee×Bool)×List T1×List (ee×Int)):Empty⊕(List (ee×Bool)×List T1×List (ee×Int)):=letI q2:=d.reaches.getD (Int.toNat s_1.2.2.2) default;letI q7:=(k_2:Int);letI q0:=({ index:=q2.up,hour:=(i64.wrap (q7 - q2.delay))}:ee);letI q4:=({ index:=s_1.2.2.2,hour:=q7}:ee);letI q1:=aL .bl .int s_2.2.2 q4;letI q3:=s_2.2.1++[({ kind:=7,hour:=q7,index:=s_1.2.2.2,bo:=q1,limit:=0}:T1)];letI q5:=fH q2 q1;letI q6:=decide (q1<=1073741824);letI q8:=aL .bl .int s_2.2.2 q0;letI q9:=aL .bl .bool s_2.1 q0;letI qa:=decide (q7<q2.delay);(bif(aL .bl .bool s_2.1 q4)then .inr ((dH .bl .bool s_2.1 q0 true),s_2.2.1,s_2.2.2)else(bif(q1==0)then .inr (s_2.1,s_2.2.1,s_2.2.2)else(bif q6 then(bif((!q5.2.1) ||qa)then .inr ((dH .bl .bool s_2.1 q0 (q9||(!q5.2.1))),q3,s_2.2.2)else .inr (s_2.1,s_2.2.1,(dH .bl .int s_2.2.2 q0 (i64.wrap (q8+(if q5.1<q2.apl then q2.apl else q5.1))))))else(bif((!q6) ||qa)then .inr ((dH .bl .bool s_2.1 q0 (q9||(!q6))),q3,s_2.2.2)else .inr (s_2.1,s_2.2.1,(dH .bl .int s_2.2.2 q0 (i64.wrap (q8+(if 0<q2.apl then q2.apl else 0)))))))))
def gm (d:ah)(api:List (List SV))(s_1:List T1×List (ee×Int)×List (ee×Bool)×Int)(k_2:Nat)(s_2:List (ee×Bool)×List T1×List (ee×Int)):Prop:=letI q1:=d.reaches.getD (Int.toNat s_1.2.2.2) default;letI q6:=(k_2:Int);letI q3:=({ index:=s_1.2.2.2,hour:=q6}:ee);letI q0:=aL .bl .int s_2.2.2 q3;letI q2:=api[s_2.2.1.length]? =some (iy ({ kind:=7,hour:=q6,index:=s_1.2.2.2,bo:=q0,limit:=0}:T1));letI q4:=decide (q0<=1073741824);letI q5:=decide (q6<q1.delay);((aL .bl .bool s_2.1 q3)=false->((q0==0)=false->((q4=true->((kS q1 q0)/\(((!(fH q1 q0).2.1) ||q5)=true->q2)))/\(q4=false->(((!q4) ||q5)=true->q2)))))
@[go_sem] def cW (d:ah)(k_1:Nat)(s_1:List T1×List (ee×Int)×List (ee×Bool)×Int):(List T1)⊕(List T1×List (ee×Int)×List (ee×Bool)×Int):=(bif(decide (s_1.2.2.2>=0))then(match aj (aZ d s_1) (Int.toNat d.hours) 0 (s_1.2.2.1,s_1.1,s_1.2.1)with| .inl x=>x.elim| .inr s_2=>.inr (s_2.2.1,s_2.2.2,s_2.1,(i64.wrap (s_1.2.2.2 - 1))))else .inl s_1.1)
def iW (d:ah)(api:List (List SV))(k_1:Nat)(s_1:List T1×List (ee×Int)×List (ee×Bool)×Int):Prop:=((decide (s_1.2.2.2>=0))=true->((0<=s_1.2.2.2/\s_1.2.2.2< (d.reaches.length:Int))/\((d.hours<9223372036854775808)/\okI (aZ d s_1) (gm d api s_1) (Int.toNat d.hours) 0 (s_1.2.2.1,s_1.1,s_1.2.1))))
def e_ (out:List Order)(d:ah):List T1:=(match aj (ga out d) out.length 0 ([])with| .inl x=>x.elim| .inr ly=>(match aj (cW d) (d.reaches.length+1) 0 (([]:List T1),ly,[],(i64.wrap ((d.reaches.length:Int) - 1)))with| .inl apR=>apR| .inr s_1=>default))
def iS (out:List Order)(d:ah)(api:List (List SV)):Prop:=letI q0:=i64.wrap ((d.reaches.length:Int) - 1);letI q1:=cW d;letI q2:=d.reaches.length+1;letI q3:=ga out d;(out.length<=aH->(okI q3 (iV out d) out.length 0 ([])/\(∀ ly,aj q3 out.length 0 ([])=.inr ly->(d.reaches.length<=aH->(okI q1 (iW d api) q2 0 (([]:List T1),ly,[],q0)/\(∀ z_,aj q1 q2 0 (([]:List T1),ly,[],q0)≠ .inr z_)/\(∀ apR,aj q1 q2 0 (([]:List T1),ly,[],q0)=.inl apR->(api.length=apR.length)))))))
theorem yu (out:List Order)(d:ah)(E:List (List SV))(hp:iS out d E):Af Tryz.prog 174 (λy=>[y,.ep [.rs .order out] 0,.ep (cellsOf .al d) 0]) [] E:=by
 unfold iS at hp;refine Bw mixed aB (fn:=Tryz.f174) (c:=ae Tryz.f174) kr kr kr kr rfl (n:=0) rfl (G:=λV=>Ag [(84,yR)] [] (C7 E V)) (λV hy=>?_) (λargs w=>by kernel_rfl);have hG:=mGY (cp s6 C1) C1 hy;refine⟨hG,Y2 rfl,(λid st=>bif Nat.beq id 0 then some (LCR (ρ:=Empty) (σ:=(List (ee×Int))) 3 [] [0,1,2] (λY W=>⟨[(0,.os 0),(2,.ep (cellsOf .al d) 0),(4,.os 1),(5,.os 2),(18,.rs .order out),(19,.v (.int .i64 (out.length:Int))),(20,.v (.int .i64 (Y:Int)))],[.ab (V.1 (([]:List T1).length+1)),.mp .bl .int W none,.mp .bl .bool ([]) none]⟩) (ga out d) (iV out d) out.length ([]) (out.length<=aH) ((·.elim)) ((·.elim)) st)else bif Nat.beq id 2 then some (YK (ρ:=(List T1)) (σ:=(List T1×List (ee×Int)×List (ee×Bool)×Int)) 3 [] [0,1,2] (λk_1 O=>⟨[(0,.os 0),(2,.ep (cellsOf .al d) 0),(4,.os 1),(5,.os 2),(8,.v (.int .i64 O.2.2.2))],[.ab (V.1 (O.1.length+1)),.mp .bl .int O.2.1 none,.mp .bl .bool O.2.2.1 none]⟩) (cW d) (iW d E) (d.reaches.length+1) (([]:List T1),(ci (aj (ga out d) out.length 0 ([]))),[],(i64.wrap ((d.reaches.length:Int) - 1))) (λ_=>.normal) (λX=>⟨[],[.ab (V.1 (X.length+1)),.dead,.dead]⟩) ⟨[],[.ab (V.1 0),.dead,.dead]⟩ st)else none),?_,?_⟩;unfold ae Tryz.f174;simp only[ak,true_and,and_true];refine⟨?_,?_⟩;refine bL mixed aB hG kr (λ_=>rfl) (out.length:Int) rfl fj (λhb0 Y W aqw hq0 hw hc=>⟨L0,ag _,?_⟩) (λhb0 W hc=>?_);unfold iV at hq0;try simp only[hw,alI]at hq0
 exact oK (jl [0,1,2]);exact oL (jl [0,1,2]);refine IS mixed aB hG kr (λ_=>rfl) λk_1 O hq1=>⟨(λid st=>bif Nat.beq id 4 then some (LCY (ρ:=Empty) (σ:=(List (ee×Bool)×List T1×List (ee×Int))) 4 [] [0,1,2,3] (λk_2 U=>⟨[(0,.os 0),(2,.ep (cellsOf .al d) 0),(4,.os 1),(5,.os 2),(8,.v (.int .i64 O.2.2.2)),(9,.ptr 3 0),(56,.v (.int .i64 d.hours)),(57,.v (.int .i64 (k_2:Int)))],[.ab (V.1 (U.2.1.length+1)),.mp .bl .int U.2.2 none,.mp .bl .bool U.1 none,.cells (cellsOf .reach (d.reaches.getD (Int.toNat O.2.2.2) (default:Reach)))]⟩) (aZ d O) (gm d E O) (Int.toNat d.hours) (O.2.2.1,O.1,O.2.1) (d.hours<9223372036854775808) ((·.elim)) ((·.elim)) ⟨[],[.ab (V.1 0),.dead,.dead,.dead]⟩ st)else none),?_,?_⟩;simp only[ak,true_and,and_true];refine sL mixed aB hG kr (λ_=>rfl) d.hours rfl id (λhb2 k_2 U hlt2 hq2 hw hc=>⟨L0,ag _,?_⟩) (λhb2 U hc=>?_);unfold gm at hq2;try simp only[hw,alI]at hq2
 exact oK (jl [0,1,2,3]);exact oL (jl [0,1,2,3]);unfold iW at hq1;exact M0 (jl [0,1,2]);unfold ae Tryz.f174;exact M0 (jl [0])
@[go_sem] def zA:List SV->Option Con:=(pD .al λd=>(pR .order λl_=>(pE (.det True (.fn 175 [] [.ep [.rs .order l_] 0,.ep (cellsOf .al d) 0])))))
theorem yw:zs Tryz.prog 112 zA:=by
 have hG:=mG C1 C1;refine fN hG Tryz.f112 [.o] (ax λd=>(bD λE=>(am (λO=>?_))));refine⟨Y2 rfl,L0,ag _,?_⟩;unfold ae Tryz.f112;simp only[go_sem,oA,oB,Nat.reduceBEq,Nat.reduceLeDiff,Nat.reduceAdd,Nat.reduceSub,Nat.reduceMul]
@[go_sem] def aV (l_:List Order)(Q1:Nat)(ly:List (ee×Int)×Int):Empty⊕(List (ee×Int)×Int):=letI q1:=l_.getD Q1 default;letI q0:=dH .bl .int ly.1 ({ index:=q1.index,hour:=q1.hour}:ee) (q1.bo);(bif(!q1.W1)then(bif(q1.index==0)then .inr (q0,(i64.wrap (ly.2+q1.bo)))else .inr (q0,ly.2))else .inr (ly.1,ly.2))
@[go_sem] def gn (d:ah)(ly:List (ee×Int)×Int)(k_1:Nat)(k_2:Nat)(k_3:Nat)(s_3:Int):Empty⊕Int:=.inr (i64.wrap (s_3+(aL .bl .int ly.1 ({ index:=(k_2:Int),hour:=(i64.wrap ((k_1:Int) - (k_3:Int)))}:ee))))
@[go_sem] def fq (d:ah)(ly:List (ee×Int)×Int)(k_1:Nat)(k_2:Nat)(s_2:List T1):Empty⊕(List T1):=letI q1:=d.reaches.getD k_2 default;letI q3:=(k_1:Int);letI q4:=(k_2:Int);letI q2:=aL .bl .int ly.1 ({ index:=q4,hour:=q3}:ee);letI q0:=s_2++[({ kind:=1,hour:=q3,index:=q4,bo:=q2,limit:=q1.cap}:T1)];(match aj (gn d ly k_1 k_2) (Int.toNat (q1.delay)) 0 0 with| .inl x=>x.elim| .inr s_3=>(bif(decide (q2 > q1.cap))then(bif(decide (s_3 > q1.apH))then .inr (q0++[({ kind:=3,hour:=q3,index:=q4,bo:=s_3,limit:=q1.apH}:T1)])else .inr q0)else(bif(decide (s_3 > q1.apH))then .inr (s_2++[({ kind:=3,hour:=q3,index:=q4,bo:=s_3,limit:=q1.apH}:T1)])else .inr s_2)))
def ib (d:ah)(api:List (List SV))(ly:List (ee×Int)×Int)(k_1:Nat)(k_2:Nat)(s_2:List T1):Prop:=letI q1:=d.reaches.getD k_2 default;letI q4:=(k_1:Int);letI q5:=(k_2:Int);letI q0:=aL .bl .int ly.1 ({ index:=q5,hour:=q4}:ee);letI q2:=({ kind:=1,hour:=q4,index:=q5,bo:=q0,limit:=q1.cap}:T1);letI q3:=decide (q0 > q1.cap);((q1.delay<9223372036854775808)/\(∀ s_3,aj (gn d ly k_1 k_2) (Int.toNat (q1.delay)) 0 0=.inr s_3->((q3=true->((api[s_2.length]? =some (iy q2))/\(((decide (s_3 > q1.apH))=true->(api[(s_2++[q2]).length]? =some (iy ({ kind:=3,hour:=q4,index:=q5,bo:=s_3,limit:=q1.apH}:T1))))/\((decide (s_3 > q1.apH))=false->((decide (s_3 > q1.apH))=false)))))/\(q3=false->((q3=false)/\(((decide (s_3 > q1.apH))=true->(api[s_2.length]? =some (iy ({ kind:=3,hour:=q4,index:=q5,bo:=s_3,limit:=q1.apH}:T1))))/\((decide (s_3 > q1.apH))=false->((decide (s_3 > q1.apH))=false))))))))
@[go_sem] def eo (d:ah)(ly:List (ee×Int)×Int)(k_1:Nat)(s_1:List T1):Empty⊕(List T1):=(match aj (fq d ly k_1) d.reaches.length 0 s_1 with| .inl x=>x.elim| .inr s_2=>.inr s_2)
def ic (d:ah)(api:List (List SV))(ly:List (ee×Int)×Int)(k_1:Nat)(s_1:List T1):Prop:=(d.reaches.length<=aH->okI (fq d ly k_1) (ib d api ly k_1) d.reaches.length 0 s_1)
def dD (l_:List Order)(d:ah):List T1:=(match aj (aV l_) l_.length 0 ([],0)with| .inl x=>x.elim| .inr ly=>(match aj (eo d ly) (Int.toNat d.hours) 0 ([]:List T1)with| .inl x=>x.elim| .inr s_1=>(bif(decide (ly.2 > d.apa.start))then(s_1++[({ kind:=4,hour:=0,index:=0,bo:=ly.2,limit:=d.apa.start}:T1)])else s_1)))
def gR (l_:List Order)(d:ah)(api:List (List SV)):Prop:=letI q0:=Int.toNat d.hours;(l_.length<=aH->(∀ ly,aj (aV l_) l_.length 0 ([],0)=.inr ly->((d.hours<9223372036854775808)/\okI (eo d ly) (ic d api ly) q0 0 ([]:List T1)/\(∀ s_1,aj (eo d ly) q0 0 ([]:List T1)=.inr s_1->(((decide (ly.2 > d.apa.start))=true->((api[s_1.length]? =some (iy ({ kind:=4,hour:=0,index:=0,bo:=ly.2,limit:=d.apa.start}:T1)))/\(api.length=(s_1++[({ kind:=4,hour:=0,index:=0,bo:=ly.2,limit:=d.apa.start}:T1)]).length)))/\((decide (ly.2 > d.apa.start))=false->(api.length=s_1.length)))))))
theorem ww (E:List Order)(d:ah)(O:List (List SV))(hp:gR E d O):Af Tryz.prog 175 (λy=>[y,.ep [.rs .order E] 0,.ep (cellsOf .al d) 0]) [] O:=by
 unfold gR at hp;refine Bw mixed aB (fn:=Tryz.f175) (c:=ae Tryz.f175) kr kr kr kr rfl (n:=0) rfl (G:=λr_=>Ag [] [] (C7 O r_)) (λr_ hy=>?_) (λargs w=>by kernel_rfl);have hG:=mGY C1 C1 hy;refine⟨hG,Y2 rfl,(λid st=>bif Nat.beq id 0 then some (LCR (ρ:=Empty) (σ:=(List (ee×Int)×Int)) 2 [] [0,1] (λQ1 X=>⟨[(0,.os 0),(2,.ep (cellsOf .al d) 0),(4,.os 1),(5,.v (.int .i64 X.2)),(15,.rs .order E),(16,.v (.int .i64 (E.length:Int))),(17,.v (.int .i64 (Q1:Int)))],[.ab (r_.1 (([]:List T1).length+1)),.mp .bl .int X.1 none]⟩) (aV E) pT E.length ([],0) (E.length<=aH) ((·.elim)) ((·.elim)) st)else bif Nat.beq id 2 then some (LCY (ρ:=Empty) (σ:=(List T1)) 2 [] [0,1] (λV Y=>⟨[(0,.os 0),(2,.ep (cellsOf .al d) 0),(4,.os 1),(5,.v (.int .i64 (ci (aj (aV E) E.length 0 ([],0))).2)),(41,.v (.int .i64 d.hours)),(42,.v (.int .i64 (V:Int)))],[.ab (r_.1 (Y.length+1)),.mp .bl .int (ci (aj (aV E) E.length 0 ([],0))).1 none]⟩) (eo d (ci (aj (aV E) E.length 0 ([],0)))) (ic d O (ci (aj (aV E) E.length 0 ([],0)))) (Int.toNat d.hours) ([]:List T1) (d.hours<9223372036854775808) ((·.elim)) ((·.elim)) ⟨[],[.ab (r_.1 0),.dead]⟩ st)else none),?_,?_⟩;unfold ae Tryz.f175;simp only[ak,true_and,and_true];refine⟨?_,?_⟩;refine bL mixed aB hG kr (λ_=>rfl) (E.length:Int) rfl fj (λhb0 Q1 X aqw _ hw hc=>⟨L0,ag _,?_⟩) (λhb0 X hc=>?_);exact oK (jl [0,1]);exact oL (jl [0,1]);refine sL mixed aB hG kr (λ_=>rfl) d.hours rfl id (λhb1 V Y aqy hq1 hw hc=>⟨(λid st=>bif Nat.beq id 4 then some (LCY (ρ:=Empty) (σ:=(List T1)) 2 [] [0,1] (λU W=>⟨[(0,.os 0),(2,.ep (cellsOf .al d) 0),(4,.os 1),(5,.v (.int .i64 (ci (aj (aV E) E.length 0 ([],0))).2)),(8,.v (.int .i64 (V:Int))),(41,.v (.int .i64 d.hours)),(42,.v (.int .i64 (V:Int))),(46,.rs .reach d.reaches),(47,.v (.int .i64 (d.reaches.length:Int))),(48,.v (.int .i64 (U:Int)))],[.ab (r_.1 (W.length+1)),.mp .bl .int (ci (aj (aV E) E.length 0 ([],0))).1 none]⟩) (fq d (ci (aj (aV E) E.length 0 ([],0))) V) (ib d O (ci (aj (aV E) E.length 0 ([],0))) V) d.reaches.length Y (d.reaches.length<=aH) ((·.elim)) ((·.elim)) ⟨[],[.ab (r_.1 0),.dead]⟩ st)else none),?_,?_⟩) (λhb1 Y hc=>?_);simp only[ak,true_and,and_true];refine sL mixed aB hG kr (λ_=>rfl) (d.reaches.length:Int) rfl fj (λhb2 U W hlt2 hq2 hw hc=>⟨(λid st=>bif Nat.beq id 6 then some (LCR (ρ:=Empty) (σ:=Int) 3 [] [0,1,2] (λk_3 s_3=>⟨[(0,.os 0),(2,.ep (cellsOf .al d) 0),(4,.os 1),(5,.v (.int .i64 (ci (aj (aV E) E.length 0 ([],0))).2)),(8,.v (.int .i64 (V:Int))),(9,.v (.int .i64 (U:Int))),(10,.ptr 2 0),(11,.v (.int .i64 s_3)),(41,.v (.int .i64 d.hours)),(42,.v (.int .i64 (V:Int))),(46,.rs .reach d.reaches),(47,.v (.int .i64 (d.reaches.length:Int))),(48,.v (.int .i64 (U:Int))),(54,.v (.int .i64 ((d.reaches.getD U (default:Reach)).delay))),(55,.v (.int .i64 (k_3:Int)))],[.ab (r_.1 (W.length+1)),.mp .bl .int (ci (aj (aV E) E.length 0 ([],0))).1 none,.cells (cellsOf .reach (d.reaches.getD U (default:Reach)))]⟩) (gn d (ci (aj (aV E) E.length 0 ([],0))) V U) pT (Int.toNat ((d.reaches.getD U (default:Reach)).delay)) 0 ((d.reaches.getD U (default:Reach)).delay<9223372036854775808) ((·.elim)) ((·.elim)) st)else none),?_,?_⟩) (λhb2 W hc=>?_);simp only[ak,true_and,and_true];refine bL mixed aB hG kr (λ_=>rfl) ((d.reaches.getD U (default:Reach)).delay) rfl id (λhb3 k_3 s_3 hlt3 _ hw hc=>⟨L0,ag _,?_⟩) (λhb3 s_3 hc=>?_);exact oK (jl [0,1,2]);exact oL (jl [0,1,2]);unfold ib at hq2;try simp only[hw,alI]at hq2
 exact oK (jl [0,1]);exact oL (jl [0,1]);unfold ic at hq1;try simp only[hw,alI]at hq1
 exact oK (jl [0,1]);exact oL (jl [0,1]);unfold ae Tryz.f175;exact M0 (jl [0])
@[go_sem] def kp (out:List Order)(d:ah)(z_0:T1)(ly:Int×Int×Int×Int×Int):Empty⊕(Int×Int×Int×Int×Int):=(bif(((ly.1==0)&&((ly.2.1==0)&&((ly.2.2.1==0)&&((ly.2.2.2.1==0)&&(ly.2.2.2.2==0))))) ||(decide ((eW ([(be z_0.hour ly.2.1),(be ly.2.2.1 z_0.index)])) <0)))then .inr (z_0.kind,z_0.hour,z_0.index,z_0.bo,z_0.limit)else .inr (ly.1,ly.2.1,ly.2.2.1,ly.2.2.2.1,ly.2.2.2.2))
def xz (out:List Order)(d:ah)(z_0:T1)(ly:Int×Int×Int×Int×Int):Prop:=True
def rF (out:List Order)(d:ah):T1:=(match di (kp out d) (e_ out d) (0,0,0,0,0)with| .inl x=>x.elim| .inr ly=>({ kind:=ly.1,hour:=ly.2.1,index:=ly.2.2.1,bo:=ly.2.2.2.1,limit:=ly.2.2.2.2}:T1))
def pa (out:List Order)(d:ah):Prop:=(iS out d ((e_ out d).map iy))
@[go_sem] noncomputable def AS:List SV->Option Con:=(pFn 174 (pXR .order λout=>(pX .al λd=>(pE ((pE (.det (pa out d) (.agg (cellsOf .fault (rF out d))))))))))
variable {p:Prop}
theorem aib(h:p:=by simp only[go_sem,e0_0,e0_1]):p:=h
variable {l0:List Nat}
theorem aic(a0:JL l0)(h:JL l0->p:=by intro ja;simp only[go_sem,kp,psT,iy,al7,alR];all_goals exact uL ja):p:=h a0
theorem zB:zs Tryz.prog 110 AS:=by
 have hG:=mG (cp eK (cn [.sl .int] tf C1)) C1;refine fN hG Tryz.f110 [.st .fault] (mr (vr λout=>(fO λd=>(am ((am (λO=>?_)))))));dsimp only[an]at O;unfold pa at O;refine⟨Y2 rfl,(λid st=>bif Nat.beq id 0 then some (LC (ρ:=Empty) (σ:=Int×Int×Int×Int×Int) (lk 2 st.t=.ptr 0 0/\lk 4 st.t=.fn 174 [] [.ep [.rs .order out] 0,.ep (cellsOf .al d) 0]/\st.h=[.cells [.v (.int .i64 0),.v (.int .i64 0),.v (.int .i64 0),.v (.int .i64 0),.v (.int .i64 0)]]/\iS out d ((e_ out d).map iy)) (di (kp out d) (e_ out d) (0,0,0,0,0)) (λx=>x.elim) (λx=>x.elim) (λE=>⟨[(2,.ptr 0 0)],[.cells [.v (.int .i64 E.1),.v (.int .i64 E.2.1),.v (.int .i64 E.2.2.1),.v (.int .i64 E.2.2.2.1),.v (.int .i64 E.2.2.2.2)]]⟩))else none),?_,?_⟩
 ·unfold ae Tryz.f110;simp only[ak,true_and,and_true]
  ·refine se mixed aB hG (by decide) (by decide) kr kr λst X U O=>?_;simp only[go_sem,Nat.reduceBEq,alK]at U;subst U;obtain⟨t,h⟩:=st;dsimp only[LC]at O;obtain⟨e0_0,e0_1,rfl,hb0⟩:=O;refine⟨174,[.ep [.rs .order out] 0,.ep (cellsOf .al d) 0],T1,_,_,(e_ out d),iy,(kp out d),(xz out d),_,(0,0,0,0,0),_,_,_,[(2,.ptr 0 0)],(λE=>[.cells [.v (.int .i64 E.1),.v (.int .i64 E.2.1),.v (.int .i64 E.2.2.1),.v (.int .i64 E.2.2.2.1),.v (.int .i64 E.2.2.2.2)]]),(λx=>x.elim),[0],?_,rfl,DR _ _ λ_ _ _=>trivial,Y2 rfl,?_,yu out d _ hb0,λW E V=>⟨rfl,L0,λl=>?_,λl=>?_,?_⟩,λE=>?_,λy=>?_⟩;exact aib
   ·simp only[go_sem,sI,jR,al5,amR,alR,al3,amL,e0_0,e0_1];all_goals (first|done|decide|(repeat' (first|refine And.intro ?_ ?_|rfl|decide)))
   simp only[ak,and_self,true_and,and_true];simp only[ak,and_self,true_and,and_true]
   skip
   exact aic (jl [0]);exact cU (jl [0]);exact cU (jl [0])
 unfold ae Tryz.f110;try unfold rF
 exact zq2
@[go_sem] def kq (d:ah)(c:List Claim)(z_0:T1)(ly:Unit):(Int×Int×Int×Int×Int)⊕Unit:=.inl (z_0.kind,z_0.hour,z_0.index,z_0.bo,z_0.limit)
def xA (d:ah)(c:List Claim)(z_0:T1)(ly:Unit):Prop:=True
def cw (d:ah)(c:List Claim):List Order×T1×Int:=letI q1:=a7 d c;letI q0:=aR d (q1.1);(bif(q1.2 !=0)then([],({ kind:=0,hour:=0,index:=0,bo:=0,limit:=0}:T1),q1.2)else(bif(q0.2.2 !=0)then([],({ kind:=0,hour:=0,index:=0,bo:=0,limit:=0}:T1),q0.2.2)else(bif(!q0.2.1)then([],(rF (q1.1) d),0)else(match di (kq d c) (dD (q0.1) d) ()with| .inl gl=>([],({ kind:=gl.1,hour:=gl.2.1,index:=gl.2.2.1,bo:=gl.2.2.2.1,limit:=gl.2.2.2.2}:T1),0) | .inr ly=>(q0.1,({ kind:=0,hour:=0,index:=0,bo:=0,limit:=0}:T1),0)))))
def jx (d:ah)(c:List Claim):Prop:=letI q1:=a7 d c;letI q0:=aR d (q1.1);((lj d c)/\((q1.2 !=0)=false->((o_ d (q1.1))/\((q0.2.2 !=0)=false->(((!q0.2.1)=true->(pa (q1.1) d))/\((!q0.2.1)=false->(gR (q0.1) d ((dD (q0.1) d).map iy))))))))
@[go_sem] def AT:List SV->Option Con:=(pD .al λd=>(pR .x6 λc=>(pE (.det (jx d c) (.tup [.rs .order ((cw d c).1),.agg (cellsOf .fault ((cw d c).2.1)),.v (.int .i64 ((cw d c).2.2))])))))
theorem aid(h:p:=by simp only[go_sem,e0_0,e0_1,e0_2,e0_3]):p:=h
theorem aie(a0:JL l0)(h:JL l0->p:=by intro ja;simp only[go_sem,kq,psT,iy,al7,alR];all_goals exact uL ja):p:=h a0
theorem th:zs Tryz.prog 57 AT:=by
 have hG:=mG (cn [.st .al,.sl .x6] zz (cn [.st .al,.sl .order] DD (cp zB (cn [.st .al,.sl .order] AR (cn [.st .al,.sl .order] yw C1))))) C1;refine fN hG Tryz.f57 [.sl .order,.st .fault,.o] (ax λd=>(bD λc=>(am (λU=>?_))));dsimp only[an]at U;unfold jx at U;refine⟨Y2 rfl,(λid st=>bif Nat.beq id 0 then some (LC (ρ:=Int×Int×Int×Int×Int) (σ:=Unit) (lk 4 st.t=.ptr 1 0/\lk 5 st.t=.ptr 2 0/\lk 6 st.t=.ptr 3 0/\lk 39 st.t=.fn 175 [] [.ep [.rs .order ((aR d ((a7 d c).1)).1)] 0,.ep (cellsOf .al d) 0]/\st.h=[.cells (cellsOf .al d),.cells [.rs .order ((aR d ((a7 d c).1)).1)],.cells [.v (.int .i64 0),.v (.int .i64 0),.v (.int .i64 0),.v (.int .i64 0),.v (.int .i64 0)],.cells [.v (.int .i64 ((aR d ((a7 d c).1)).2.2))]]/\gR ((aR d ((a7 d c).1)).1) d ((dD ((aR d ((a7 d c).1)).1) d).map iy)) (di (kq d c) (dD ((aR d ((a7 d c).1)).1) d) ()) (λ_=>.ret) (λE=>⟨[(4,.ptr 1 0),(5,.ptr 2 0),(6,.ptr 3 0)],[.dead,.cells [.v (.slice none 0 0)],.cells [.v (.int .i64 E.1),.v (.int .i64 E.2.1),.v (.int .i64 E.2.2.1),.v (.int .i64 E.2.2.2.1),.v (.int .i64 E.2.2.2.2)],.cells [.v (.int .i64 0)]]⟩) (λO=>⟨[(4,.ptr 1 0),(5,.ptr 2 0),(6,.ptr 3 0)],[.dead,.cells [.rs .order ((aR d ((a7 d c).1)).1)],.cells [.v (.int .i64 0),.v (.int .i64 0),.v (.int .i64 0),.v (.int .i64 0),.v (.int .i64 0)],.cells [.v (.int .i64 ((aR d ((a7 d c).1)).2.2))]]⟩))else none),?_,?_⟩
 ·unfold ae Tryz.f57;simp only[ak,true_and,and_true]
  ·refine se mixed aB hG (by decide) (by decide) kr kr λst Y V U=>?_;simp only[go_sem,Nat.reduceBEq,alK]at V;subst V;obtain⟨t,h⟩:=st;dsimp only[LC]at U;obtain⟨e0_0,e0_1,e0_2,e0_3,rfl,hb0⟩:=U;refine⟨175,[.ep [.rs .order ((aR d ((a7 d c).1)).1)] 0,.ep (cellsOf .al d) 0],T1,_,_,(dD ((aR d ((a7 d c).1)).1) d),iy,(kq d c),(xA d c),_,(),_,_,_,[(4,.ptr 1 0),(5,.ptr 2 0),(6,.ptr 3 0)],(λO=>[.dead,.cells [.rs .order ((aR d ((a7 d c).1)).1)],.cells [.v (.int .i64 0),.v (.int .i64 0),.v (.int .i64 0),.v (.int .i64 0),.v (.int .i64 0)],.cells [.v (.int .i64 ((aR d ((a7 d c).1)).2.2))]]),(λE=>[.dead,.cells [.v (.slice none 0 0)],.cells [.v (.int .i64 E.1),.v (.int .i64 E.2.1),.v (.int .i64 E.2.2.1),.v (.int .i64 E.2.2.2.1),.v (.int .i64 E.2.2.2.2)],.cells [.v (.int .i64 0)]]),[0,1,2,3],?_,rfl,DR _ _ λ_ _ _=>trivial,Y2 rfl,?_,ww ((aR d ((a7 d c).1)).1) d _ hb0,λX O W=>⟨rfl,L0,λl=>?_,λl=>?_,?_⟩,λO=>?_,λy=>?_⟩;exact aid
   ·simp only[go_sem,sI,jR,al5,amR,alR,al3,amL,e0_0,e0_1,e0_2,e0_3];all_goals (first|done|decide|(repeat' (first|refine And.intro ?_ ?_|rfl|decide)))
   simp only[ak,and_self,true_and,and_true];simp only[ak,and_self,true_and,and_true]
   skip
   exact aie (jl [0,1,2,3]);exact cU (jl [0,1,2,3]);exact cU (jl [0,1,2,3])
 unfold ae Tryz.f57;try unfold cw
 exact zq2
def bq (d:ah)(c:List Claim):List Order×Bool×Int:=letI q0:=cw d c;(q0.1,((q0.2.2==0)&&(((q0.2.1).kind==0)&&(((q0.2.1).hour==0)&&(((q0.2.1).index==0)&&(((q0.2.1).bo==0)&&((q0.2.1).limit==0)))))),q0.2.2)
def gB (d:ah)(c:List Claim):Prop:=(jx d c)
@[go_sem] def Cg:List SV->Option Con:=(pD .al λd=>(pR .x6 λc=>(pE (.det (gB d c) (.tup [.rs .order ((bq d c).1),.v (.bool ((bq d c).2.1)),.v (.int .i64 ((bq d c).2.2))])))))
theorem t6:zs Tryz.prog 18 Cg:=by
 have hG:=mG (cn [.st .al,.sl .x6] th C1) C1;refine fN hG Tryz.f18 [.sl .order,.o,.o] (ax λd=>(bD λc=>(am (λE=>?_))));dsimp only[an]at E;unfold gB at E;refine⟨Y2 rfl,L0,ag _,?_⟩;unfold ae Tryz.f18;try unfold bq
 exact zq2
def bY (d:ah)(c:List Claim):T1×Bool×Int:=letI q1:=cw d c;letI q0:=q1.2.1;(q0,(!((q0.kind==0)&&((q0.hour==0)&&((q0.index==0)&&((q0.bo==0)&&(q0.limit==0)))))),q1.2.2)
def ll (d:ah)(c:List Claim):Prop:=(jx d c)
@[go_sem] def AU:List SV->Option Con:=(pD .al λd=>(pR .x6 λc=>(pE (.det (ll d c) (.tup [.agg (cellsOf .fault ((bY d c).1)),.v (.bool ((bY d c).2.1)),.v (.int .i64 ((bY d c).2.2))])))))
theorem tj:zs Tryz.prog 34 AU:=by
 have hG:=mG (cn [.st .al,.sl .x6] th C1) C1;refine fN hG Tryz.f34 [.st .fault,.o,.o] (ax λd=>(bD λc=>(am (λE=>?_))));dsimp only[an]at E;unfold ll at E;refine⟨Y2 rfl,L0,ag _,?_⟩;unfold ae Tryz.f34;try unfold bY
 exact zq2
abbrev UM:=List (ee×Bool)
abbrev WM:=List (ee×Int)
def sl (a b:Int):ee:= { index:=a,hour:=b}
def ltF (k:Nat)(r n:Int):T1:= { kind:=7,hour:=(k:Int),index:=r,bo:=n,limit:=0}
section
variable {d:ah}{s1:List T1×WM×UM×Int}{k:Nat}{u:UM}{F:List T1}{w:WM}
theorem Tl (O:aL .bl .bool u (sl s1.2.2.2 k)=true):∃ E,aZ d s1 k (u,F,w)=.inr (E,F,w):=by
 simp_all [aZ,sl]
theorem Tm (O:aL .bl .bool u (sl s1.2.2.2 k)=false)(E:aL .bl .int w (sl s1.2.2.2 k)=0):aZ d s1 k (u,F,w)=.inr (u,F,w):=by
 simp_all [aZ,sl]
theorem WQ (U:aL .bl .bool u (sl s1.2.2.2 k)=false)(O:aL .bl .int w (sl s1.2.2.2 k)≠0)
  (E:(bI (rch d s1.2.2.2) (aL .bl .int w (sl s1.2.2.2 k))).2=false\/(k:Int) < (rch d s1.2.2.2).delay):
  ∃ V,aZ d s1 k (u,F,w)=.inr (V,F++[ltF k s1.2.2.2 (aL .bl .int w (sl s1.2.2.2 k))],w):=by
 unfold aZ ltF;unfold sl at U O E |-;simp only[U,cond_false];generalize Y:aL .bl .int w ({ index:=s1.2.2.2,hour:=(k:Int)}:ee)=n at O E |-;have W:(n==0)=false:=by grind
 rw[W,cond_false];unfold bI at E;by_cases X:n<=1073741824
 rw[decide_eq_true X,cond_true];have h1:((n==0) ||decide (n > 1073741824))=false:=by grind
 rw[h1,cond_false]at E;have h2:((!(fH (d.reaches.getD (Int.toNat s1.2.2.2) (default:Reach)) n).2.1) ||(decide ((k:Int) < (d.reaches.getD (Int.toNat s1.2.2.2) (default:Reach)).delay)))=true:=by
  grind
 rw[h2,cond_true];grind
 simp_all [decide_eq_false]
theorem Tn (U:aL .bl .bool u (sl s1.2.2.2 k)=false)(O:aL .bl .int w (sl s1.2.2.2 k)≠0)
  (E:(bI (rch d s1.2.2.2) (aL .bl .int w (sl s1.2.2.2 k))).2=true) (W:¬ (k:Int) < (rch d s1.2.2.2).delay):
  aZ d s1 k (u,F,w)=.inr (u,F,dH .bl .int w (sl (rch d s1.2.2.2).up (i64.wrap ((k:Int) - (rch d s1.2.2.2).delay))) (i64.wrap (aL .bl .int w (sl (rch d s1.2.2.2).up (i64.wrap ((k:Int) - (rch d s1.2.2.2).delay)))+(bI (rch d s1.2.2.2) (aL .bl .int w (sl s1.2.2.2 k))).1))):=by
 unfold aZ;unfold sl at U O E |-;simp only[U,cond_false];generalize X:aL .bl .int w ({ index:=s1.2.2.2,hour:=(k:Int)}:ee)=n at O E |-;have V:(n==0)=false:=by grind
 rw[V,cond_false];unfold bI at E |-;grind
theorem WR:∃ E T w',aZ d s1 k (u,F,w)=.inr (E,F++T,w')/\∀ f∈T,f.kind=7:=by
 cases O:aL .bl .bool u (sl s1.2.2.2 k)with
 |true=>obtain⟨E,e⟩:=Tl (F:=F) (w:=w) O;exact⟨E,[],w,by rw[e,al3],by simp⟩
 |false=>
  by_cases U:aL .bl .int w (sl s1.2.2.2 k)=0
  exact⟨u,[],w,by rw[Tm O U,al3],by simp⟩;by_cases V:(bI (rch d s1.2.2.2) (aL .bl .int w (sl s1.2.2.2 k))).2=false\/(k:Int) < (rch d s1.2.2.2).delay
  obtain⟨E,e⟩:=WQ (F:=F) O U V;grind [ltF]
  have h1:(bI (rch d s1.2.2.2) (aL .bl .int w (sl s1.2.2.2 k))).2=true:=by
   grind
  exact⟨u,[],_,by rw[Tn O U h1 (λq=>V (.inr q)),al3],by simp⟩
end
section
variable {d:ah}{s1:List T1×WM×UM×Int}{items:List (List SV)}
theorem DY:∀ (n k:Nat) (u:UM) (F:List T1) (w:WM),∃ E T w',aj (aZ d s1) n k (u,F,w)=.inr (E,F++T,w')/\∀ f∈T,f.kind=7
 |0,k,u,F,w=>⟨u,[],w,by rw[al3];rfl,by simp⟩
 |n+1,k,u,F,w=>by
  obtain⟨U,O,w1,e1,h1⟩:=WR (d:=d) (s1:=s1) (k:=k) (u:=u) (F:=F) (w:=w);obtain⟨V,Y,W,X,h2⟩:=DY n (k+1) U (F++O) w1;grind [aj]
variable {F:List T1}
theorem DZ{f:T1}(h:(F++[f]).map iy<+:items):items[F.length]? =some (iy f):=by
 obtain⟨t,rfl⟩:=h;simp
theorem Zv{k:Nat}{u:UM}{w:WM}(h:∀ f,(∃ W w',aZ d s1 k (u,F,w)=.inr (W,F++[f],w'))->items[F.length]? =some (iy f)):gm d items s1 k (u,F,w):=by
 intro V U;simp only at V U;refine⟨λO=>⟨Lb _ _,λE=>h _ ?_⟩,λO E=>h _ ?_⟩;unfold aZ;simp only at O E;simp only[V,U,O,E,cond_false,cond_true];grind
 unfold aZ;simp only at O E;simp only[V,U,O,E,cond_false,cond_true];simp_all
theorem WS:∀ (n k:Nat) (u:UM) (F:List T1) (w:WM),(∀ E U O,aj (aZ d s1) n k (u,F,w)=.inr (E,U,O)->U.map iy<+:items)->okI (aZ d s1) (gm d items s1) n k (u,F,w)
 |0,_,_,_,_,_=>trivial
 |n+1,k,u,F,w,h=>by
  refine⟨Zv λf ⟨V,w',e⟩ =>?_,λs' e=>?_⟩;obtain⟨E,X,O,W,_⟩:=DY (d:=d) (s1:=s1) n (k+1) V (F++[f]) w';have:=h E (F++[f]++X) O (by grind [aj]);refine DZ (anL ?_ this);grind
  obtain⟨V,F',w'⟩:=s';exact WS n (k+1) V F' w' λE U O W=>h E U O (by grind [aj])
end
section
variable {d:ah}{items:List (List SV)}
variable {F:List T1}{w:WM}
theorem WT{j:Nat}{u:UM}{i:Int}(h:i<0):cW d j (F,w,u,i)=.inl F:=by
 simp_all [cW,decide_eq_false]
theorem aaF{j:Nat}{F':List T1}{w':WM}{u E:UM}{i:Int}(O:0<=i)(h1:i<=1000000)(e:aj (aZ d (F,w,u,i)) (Int.toNat d.hours) 0 (u,F,w)=.inr (E,F',w')):
  cW d j (F,w,u,i)=.inr (F',w',E,i - 1):=by
 unfold cW;simp only;rw[decide_eq_true (by omega),cond_true,e];grind [aA]
theorem Lk:∀ (m n j:Nat) (F:List T1) (w:WM) (u:UM),m<n->m<=1000000->∃ T,aj (cW d) n j (F,w,u,(m:Int) - 1)=.inl (F++T)/\∀ f∈T,f.kind=7
 |0,n+1,j,F,w,u,_,_=>⟨[],by grind [aj,WT],by simp⟩
 |m+1,n+1,j,F,w,u,h,hm=>by
  obtain⟨V,E,w1,X,h1⟩:=DY (d:=d) (s1:=(F,w,u,((m+1:Nat):Int) - 1)) (Int.toNat d.hours) 0 u F w;obtain⟨U,W,h2⟩:=Lk m n (j+1) (F++E) w1 V (by omega) (by omega);refine⟨E++U,?_,λf O=>(amj.1 O).elim (h1 f) (h2 f)⟩;simp only[aj];grind [aaF]
theorem Rz (X:d.hours<=4096):∀ (m n j:Nat) (F:List T1) (w:WM) (u:UM),m<n->m<=1000000->m<=d.reaches.length->(∀ x,aj (cW d) n j (F,w,u,(m:Int) - 1)=.inl x->x.map iy<+:items)->
  okI (cW d) (iW d items) n j (F,w,u,(m:Int) - 1)
 |0,n+1,j,F,w,u,_,_,_,h=>by
  refine⟨λq=>?_,λs' e=>?_⟩;grind
  grind [WT]
 |m+1,n+1,j,F,w,u,hmn,hm,hR,h=>by
  obtain⟨W,U,w1,V,h1⟩:=DY (d:=d) (s1:=(F,w,u,((m+1:Nat):Int) - 1)) (Int.toNat d.hours) 0 u F w;have O:=aaF (j:=j) (d:=d) (by omega) (by omega) V;rw[show((m+1:Nat):Int) - 1 - 1=(m:Int) - 1 by omega]at O;refine⟨λq=>⟨by grind,by omega,WS _ _ _ _ _ λu2 F2 w2 E=>?_⟩,λs' e=>?_⟩;simp only at E;rw[V]at E;simp only[amr,aoP]at E;obtain⟨rfl,rfl,rfl⟩:=E;obtain⟨T2,Y,_⟩:=Lk (d:=d) m n (j+1) (F++U) w1 W (by omega) (by omega);have:=h _ (by simp only[aj];rw[O];exact Y);refine anL ?_ this;grind
  rw[O]at e;simp only[amr]at e;subst e;exact Rz X m n (j+1) (F++U) w1 W (by omega) (by omega) (by omega) λx hx=>h x (by grind [aj])
end
def Eqv (w:WM)(m:Mp):Prop:= ∀ a b,aL .bl .int w (sl a b)=aL .apc .int m (a,b)
theorem WU {a b x y:Int}:(sl x y=sl a b)=((x,y)=(a,b)):=by
 grind [sl]
theorem Eqv.put {w:WM}{m:Mp}(h:Eqv w m)(a b v:Int):Eqv (dH .bl .int w (sl a b) v) (dH .apc .int m (a,b) v):=λx y=>by
 rw[oe,oe,h];simp_all [WU]
section
variable {d:ah}{out:List Order}
theorem aaG:∀ (n k:Nat) (w:WM) (m O:Mp),Eqv w m->aj (bQ d out) n k m=.inr O->∃ w',aj (ga out d) n k w=.inr w'/\Eqv w' O
 |0,k,w,m,O,h,e=>by
  grind [aj]
 |n+1,k,w,m,O,h,e=>by
  simp only[aj]at e |-;cases E:bQ d out k m with
  |inl x=>grind
  |inr m1=>
   rw[E]at e;simp only at e;refine aaG n (k+1) _ m1 O ?_ e;unfold bQ at E;cases U:(out.getD k (default:Order)).W1 with
   |false=>grind
   |true=>
    rw[U]at E;simp only[alZ,cond_false,amr]at E;subst E;have h1:=h (d.l5.getD (Int.toNat ((out.getD k (default:Order)).index)) (default:aqa)).reach (out.getD k (default:Order)).hour;have:=h.put (d.l5.getD (Int.toNat ((out.getD k (default:Order)).index)) (default:aqa)).reach (out.getD k (default:Order)).hour (i64.wrap ((aL .apc .int m ((d.l5.getD (Int.toNat ((out.getD k (default:Order)).index)) (default:aqa)).reach,(out.getD k (default:Order)).hour))+(out.getD k (default:Order)).bo));rw[<-h1]at this |-;exact this
theorem P8 (O:aps d)(U:apq d out)(E:∀ x∈out,x.W1=true):∃ w0,aj (ga out d) out.length 0 []=.inr w0/\(∃ m,aj (bQ d out) out.length 0 []=.inr m/\Eqv w0 m)/\
  aj (cW d) (d.reaches.length+1) 0 ([],w0,[],i64.wrap ((d.reaches.length:Int) - 1))=.inl (e_ out d)/\∀ f∈e_ out d,f.kind=7:=by
 obtain⟨m,V⟩:=(Cc O U).2.2 E;obtain⟨w0,e0,X⟩:=aaG out.length 0 [] [] m (λ_ _=>rfl) V;have W:=O.reaches;obtain⟨T,Y,h1⟩:=Lk (d:=d) d.reaches.length (d.reaches.length+1) 0 [] w0 [] (by omega) (by omega);have hw:i64.wrap ((d.reaches.length:Int) - 1)=(d.reaches.length:Int) - 1:=aA (by omega) (by omega);grind [e_]
theorem adt (V:aps d)(W:apq d out)(E:∀ x∈out,x.W1=true):iS out d ((e_ out d).map iy):=by
 obtain⟨w0,e0,_,e1,_⟩:=P8 V W E;intro _;have hR:=V.reaches;have X:=V.hours;refine⟨?_,λly O _=>?_⟩;have U:∀ j s,0<=j->j<0+out.length->iV out d j s:=λj s _ hj=>by
  have h1:=W.one j (by omega);have h2:(out.getD j (default:Order)).W1=true:=E _ (B_ _ _ (by omega));exact⟨h1.aqB,h1.dd h2⟩
 exact jk (λ_ _=>True) _ _ _ trivial λj s h1 h2 _=>⟨U j s h1 h2,λ_ _=>trivial⟩;rw[e0]at O;simp only[amr]at O;subst O;have hw:i64.wrap ((d.reaches.length:Int) - 1)=(d.reaches.length:Int) - 1:=aA (by omega) (by omega);refine⟨?_,λz hz=>?_,λx Y=>?_⟩;rw[hw]at e1 |-;exact Rz X _ _ _ _ _ _ (by omega) (by omega) (alJ _) λx Y=>by
  grind
 grind
 grind
end
theorem Ch {f:Nat->List T1}{step:Nat->List T1->Empty⊕List T1}:∀ (n i:Nat) (s:List T1),(∀ j s,i<=j->j<i+n->step j s=.inr (s++f j))->aj step n i s=.inr (s++(List.range' i n).flatMap f)
 |0,i,s,_=>by simp[aj]
 |n+1,i,s,h=>by
  simp only[aj,h i s (alJ _) (by omega)];rw[Ch n (i+1) (s++f i) λj s h1 h2=>h j s (by omega) (by omega)];simp[am9]
theorem GN {f:Nat->List T1}{step:Nat->List T1->Empty⊕List T1}{p:Nat->List T1->Prop}{items:List (List SV)}:∀ (n i:Nat) (s:List T1),(∀ j s,i<=j->j<i+n->step j s=.inr (s++f j))->
  (∀ j s,i<=j->j<i+n->(s++f j).map iy<+:items->p j s)->(s++(List.range' i n).flatMap f).map iy<+:items->okI step p n i s
 |0,_,_,_,_,_=>trivial
 |n+1,i,s,h,hp,hi=>by
  rw[am9,al5,<-amt]at hi;refine⟨hp i s (alJ _) (by omega) (anL (by grind) hi),λs' e=>?_⟩;rw[h i s (alJ _) (by omega)]at e;simp only[amr]at e;subst e;exact GN n (i+1) (s++f i) (λj s h1 h2=>h j s (by omega) (by omega)) (λj s h1 h2=>hp j s (by omega) (by omega)) hi
def g0P (x:Order):Bool:= !x.W1&&x.index==0
section
variable {d:ah}{l:List Order}
theorem P9 (O:apq d l):∃ s0,aj (aV l) l.length 0 ([],0)=.inr s0/\(∀ r h,aL .bl .int s0.1 (sl r h)=gk (ir r h h) l)/\s0.2=gk g0P l:=by
 obtain⟨s,e,h1,h2⟩:=Lf (step:=aV l) (λj s=>(∀ r h,aL .bl .int s.1 (sl r h)=gk (ir r h h) (l.take j))/\s.2=gk g0P (l.take j)) l.length 0 ([],0) ⟨λ_ _=>rfl,rfl⟩ (λj s _ E ⟨h1,h2⟩ =>by
  have E:j<l.length:=by omega
  have hb:=Rx O g0P j;have V:=O.lit _ (amA E);unfold aV;rw[my _ _ E];cases X:l[j].W1 with
  |true=>
   grind [ya,ir,g0P]
  |false=>
   have U:∀ r h,aL .bl .int (dH .bl .int s.1 (sl l[j].index l[j].hour) l[j].bo) (sl r h)=gk (ir r h h) (l.take (j+1)):=λr h=>by
    rw[oe,ya E,h1];by_cases q:r=l[j].index/\h=l[j].hour
    obtain⟨rfl,rfl⟩:=q;have W:ir l[j].index l[j].hour l[j].hour l[j]=true:=by grind [ir]
    rw[if_pos rfl,W,Ti O E (λx Y=>?_)];simp;unfold ir at Y;grind
    have W:ir r h h l[j]=false:=by
     cases hc:ir r h h l[j]with
     |false=>rfl
     |true=>
      unfold ir at hc;grind
    simp_all [WU]
   by_cases h0:l[j].index=0
   have hb0:(l[j].index==0)=true:=by rw[h0];rfl
   simp only[amd,cond_true,hb0];refine⟨_,rfl,U,?_⟩;have:g0P l[j]=true:=by grind [g0P]
   rw[ya E,this,h2,aA (by omega) (by omega),cond_true];have hb0:(l[j].index==0)=false:=by grind
   simp only[amd,cond_true,hb0,cond_false];refine⟨_,rfl,U,?_⟩;grind [g0P,ya])
 grind
theorem WV (E:apq d l){s0:WM×Int}(U:∀ r h,aL .bl .int s0.1 (sl r h)=gk (ir r h h) l)(h i:Nat)(X:h<=1000000)(n:Nat)(hn:n<=1000000):
  aj (gn d s0 h i) n 0 0=.inr (gk (ir i ((h:Int) - n+1) h) l):=by
 obtain⟨s,e,h1⟩:=Lf (step:=gn d s0 h i) (λj s=>s=gk (ir i ((h:Int) - j+1) h) l) n 0 0 (x9 (λx _=>by
   cases hc:ir i ((h:Int) - (0:Nat)+1) h x with
   |false=>rfl
   |true=>
    unfold ir at hc;grind)).symm (λj s _ hj V=>by
  refine⟨_,rfl,?_⟩;have O:=U (i:Int) ((h:Int) - (j:Int));unfold sl at O;have W:=WO E (i:Int) (a:=(h:Int) - j) (m:=(h:Int) - j+1) (b:=(h:Int)) (by omega) (by omega);have e3:=WN E (ir i ((h:Int) - j) ((h:Int) - j));have Y:=WN E (ir i ((h:Int) - j+1) h);rw[show(h:Int) - j+1 - 1=(h:Int) - j by omega]at W;rw[aA (n:=(h:Int) - (j:Int)) (by omega) (by omega),O,V,aA (by omega) (by omega),show(h:Int) - ((j+1:Nat):Int)+1=(h:Int) - j by omega];omega)
 grind
def bkV (d:ah)(l:List Order)(h i:Nat):List T1:=
 (if gk (ir i h h) l > (rch d i).cap then [{ kind:=1,hour:=(h:Int),index:=(i:Int),bo:=gk (ir i h h) l,limit:=(rch d i).cap}]else [])++
 (if gk (ir i ((h:Int) - (rch d i).delay+1) h) l > (rch d i).apH then [{ kind:=3,hour:=(h:Int),index:=(i:Int),bo:=gk (ir i ((h:Int) - (rch d i).delay+1) h) l,limit:=(rch d i).apH}]else [])
variable {h:Nat}{items:List (List SV)}
theorem RA(ho:apq d l){s0:WM×Int}(X:∀ r h,aL .bl .int s0.1 (sl r h)=gk (ir r h h) l){i:Nat}(hh:h<=1000000)(hi:i<d.reaches.length)(s:List T1):
  fq d s0 h i s=.inr (s++bkV d l h i)/\((s++bkV d l h i).map iy<+:items->ib d items s0 h i s):=by
 have Y:=ho.right.aqG hi;have hd1:=Y.aq8;have hd2:=Y.delay;have e1:=WV ho X h i hh (Int.toNat (d.reaches.getD i (default:Reach)).delay) (by omega);have e2:=X (i:Int) (h:Int);unfold sl at e2;have e3:((Int.toNat (d.reaches.getD i (default:Reach)).delay:Nat):Int)=(rch d (i:Int)).delay:=by
  grind
 rw[e3]at e1;have e4:d.reaches.getD i (default:Reach)=rch d (i:Int):=by rfl
 have U:(d.reaches.getD i (default:Reach)).delay<9223372036854775808:=by omega
 refine⟨?_,λE=>⟨U,λs3 W=>?_⟩⟩;grind [fq,bkV]
 rw[e1]at W;simp only[amr]at W;subst W;simp only[e2];rw[e4];unfold bkV at E;generalize gk (ir i ((h:Int) - (rch d (i:Int)).delay+1) h) l=B at E |-;generalize gk (ir i h h) l=A at E |-;generalize rch d (i:Int)=x at E |-;refine⟨λO=>⟨?_,λV=>?_,λq=>q⟩,λO=>⟨O,λV=>?_,λq=>q⟩⟩;rw[if_pos (of_decide_eq_true O),<-amt]at E;refine DZ (anL ?_ E);grind
 rw[if_pos (of_decide_eq_true O),if_pos (of_decide_eq_true V),<-amt]at E;exact DZ E;rw[if_neg (of_decide_eq_false O),if_pos (of_decide_eq_true V),alR]at E;exact DZ E
def bkH (d:ah)(l:List Order)(h:Nat):List T1:=(List.range' 0 d.reaches.length).flatMap (bkV d l h)
theorem RB(U:apq d l){s0:WM×Int}(O:∀ r h,aL .bl .int s0.1 (sl r h)=gk (ir r h h) l)(E:h<=1000000)(s:List T1):
  eo d s0 h s=.inr (s++bkH d l h)/\((s++bkH d l h).map iy<+:items->ic d items s0 h s):=by
 have key:∀ j s,0<=j->j<0+d.reaches.length->fq d s0 h j s=.inr (s++bkV d l h j):=λj s _ V=>(RA U O E (by omega) s (items:=items)).1;refine⟨?_,λW _=>?_⟩;unfold eo;rw[Ch d.reaches.length 0 s key];rfl;exact GN d.reaches.length 0 s key (λj s _ V X=>(RA U O E (by omega) s).2 X) W
def CX (d:ah)(l:List Order):List T1:=(List.range' 0 d.hours.toNat).flatMap (bkH d l)++(if gk g0P l > d.apa.start then [{ kind:=4,hour:=0,index:=0,bo:=gk g0P l,limit:=d.apa.start}]else [])
theorem Jn (E:apq d l):dD l d=CX d l/\gR l d ((dD l d).map iy):=by
 obtain⟨s0,W,U,h0⟩:=P9 E;have hh:=E.right.hours;have key:∀ j s,0<=j->j<0+d.hours.toNat->eo d s0 j s=.inr (s++bkH d l j):=λj s _ X=>(RB E U (by omega) s (items:=[])).1;have e1:=Ch d.hours.toNat 0 [] key;have V:dD l d=CX d l:=by
  unfold dD CX;grind
 refine⟨V,?_⟩;rw[V];intro _ s O;rw[W]at O;simp only[amr]at O;subst O;refine⟨by omega,?_,λs1 Y=>?_⟩;refine GN d.hours.toNat 0 [] key (λj s _ X hq=>(RB E U (by omega) s).2 hq) ?_;grind [CX]
 simp_all [CX]
structure Lim (d:ah)(l:List Order):Prop where
 cap:∀ h i:Nat,h<d.hours.toNat->i<d.reaches.length->gk (ir i h h) l<=(rch d i).cap
 apH:∀ h i:Nat,h<d.hours.toNat->i<d.reaches.length->gk (ir i ((h:Int) - (rch d i).delay+1) h) l<=(rch d i).apH
 apa:gk g0P l<=d.apa.start
theorem adu{i:Nat}:bkV d l h i=[]↔gk (ir i h h) l<=(rch d i).cap/\gk (ir i ((h:Int) - (rch d i).delay+1) h) l<=(rch d i).apH:=by
 unfold bkV;simp_all
theorem To:CX d l=[]↔Lim d l:=by
 unfold CX bkH;simp only[aow,anS,List.mem_range',adu];constructor
 rintro⟨h1,h2⟩;refine⟨λh i E hi=>(h1 h ⟨h,E,by omega⟩ i ⟨i,hi,by omega⟩).1,λh i E hi=>(h1 h ⟨h,E,by omega⟩ i ⟨i,hi,by omega⟩).2,?_⟩;grind
 intro h;refine⟨?_,if_neg (by have:=h.apa;omega)⟩;rintro a ⟨h',E,rfl⟩ b ⟨i,hi,rfl⟩;exact⟨h.cap _ _ (by omega) (by omega),h.apH _ _ (by omega) (by omega)⟩
end
section
variable {d:ah}{c:List Claim}
theorem yT (s:List Order):bw s=true↔∃ x∈s,x.bo > 1073741824:=by
 unfold bw dN;have E:∀ j,bU s j ()=bif decide ((s.getD j default).bo > 1073741824)then .inl (j:Int)else .inr ():=λj=>rfl;have key:∀ n i,(∀ j,i<=j->j<i+n->¬ (s.getD j default).bo > 1073741824)->aj (bU s) n i ()=.inr ():=by
  intro n;induction n with
  |zero=>intro i _;rfl
  |succ n W=>
   intro i h;simp only[aj,E];grind
 have O:∀ n i x,aj (bU s) n i ()=.inl x->0<=x/\∃ j,i<=j/\j<i+n/\(s.getD j default).bo > 1073741824:=by
  intro n;induction n with
  |zero=>grind
  |succ n W=>
   intro i x h;simp only[aj,E]at h;grind
 constructor
 grind
 rintro⟨x,U,Y⟩;obtain⟨j,X,rfl⟩:=amm U;cases V:aj (bU s) s.length 0 ()with
 |inl x=>grind
 |inr u=>
  have h1:=Pv V j (ame _) (by omega);grind
structure aql (d:ah)(c:List Claim):Prop where
 chk:d7 d c=0
 wide:(d.reaches.length:Int)*d.hours<=1024
 lit:∀ x∈aT c,x.bo<=1073741824
theorem RD (h:d7 d c=0):aqK c:=by
 obtain⟨_,h2,O,_⟩:=(mc d c).1 h;exact⟨h2,λa E=>P7 (O a E)⟩
theorem GO (h:d7 d c=0):aps d:=jt (by grind [mc])
theorem Zw (h:d7 d c=0):i64.wrap ((d.reaches.length:Int)*d.hours)=(d.reaches.length:Int)*d.hours:=by
 have:=Jk (GO h);exact aA (by omega) (by omega)
theorem Ci:(a7 d c).2=0↔aql d c:=by
 unfold a7;by_cases h1:d7 d c=0
 rw[h1];simp only[bne_self_eq_false,cond_false];rw[Zw h1];by_cases h2:(d.reaches.length:Int)*d.hours > 1024
 rw[decide_eq_true h2,cond_true];constructor
 omega;intro h;have:=h.wide;omega;rw[decide_eq_false h2,cond_false];cases O:bw (aT c)with
 |true=>
  rw[cond_true];obtain⟨x,E,U⟩:=(yT _).1 O;constructor
  omega;intro h;have:=h.lit x E;omega
 |false=>
  rw[cond_false];refine⟨λ_=>⟨h1,by omega,λx E=>?_⟩,λ_=>rfl⟩;by_cases q:x.bo > 1073741824
  have:=(yT _).2 ⟨x,E,q⟩;grind
  omega
 have:(d7 d c !=0)=true:=by grind
 rw[this,cond_true];exact⟨λh=>absurd h h1,λh=>absurd h.chk h1⟩
theorem Cj (h:aql d c):a7 d c=(aT c,0):=by
 have h2:=Ci.2 h;unfold a7 at h2 |-;grind
theorem WW (d:ah)(c:List Claim):lj d c:=by
 refine⟨Tg d c,λh _ _=>Tk (RD (d:=d) ?_)⟩;simpa using h
theorem aql.outs (h:aql d c):aru c (aT c):=Sx.outs (RD h.chk)
theorem aql.nar (h:aql d c):Nar d (aT c):=by
 obtain⟨h1,h2,X,_⟩:=(mc d c).1 h.chk;have E:=h.outs;refine⟨⟨h1,alW E.len h2,λx O=>?_,E.asc⟩,h.wide⟩;obtain⟨a,Y,e1,e2⟩:=E.src x O;have W:=X a Y;unfold okC at W;simp only[alG,decide_eq_true_eq]at W;have V:=E.out x O;have hl:=E.lit x O;have U:=h.lit x O;exact⟨by omega,by omega,by omega,λ_=>by omega,λq=>(by grind),hl.2,U⟩
theorem GP (d:ah)(c:List Claim):jx d c:=by
 refine⟨WW d c,λh=>?_⟩;have O:aql d c:=Ci.1 (by simpa using h);have X:=Cj O;rw[X];have U:=O.nar;have E:=O.outs.out;refine⟨adq _ _,λh2=>⟨λ_=>?_,λY=>?_⟩⟩;exact adt U.good.right U.good.aqp E;rcases P4 d (aT c)with⟨_,e⟩ | ⟨_,_,e⟩ | ⟨_,_,_,e⟩ | ⟨_,_,W,_,_,e⟩ | ⟨_,_,W,V,e⟩;grind
 grind
 grind
 grind
 rw[e];exact(Jn V.good.aqp).2
def D0 (d:ah)(c:List Claim):gB d c:=GP d c
end
end Go.Sx
end
