/- Part of the proof that the law RefuseLeast returns true and leaves its arguments as they were, for all arguments of bulk at most 1048576 (the Upto form). -/
import Derived.Test.YtaikmgjfkejlkaaGreatS108
import Derived.Test.YtaikmgjfkejlkaaGreatS107
import Derived.Shelf.SortM.Plain
import Derived.Shelf.SortM.SortNone
import Derived.Ground.SlgmProg
import Derived.Shelf.SlGeneric
import Derived.Test.YtaikmgjfkejlkaaGreatS103
import Derived.Test.YtaikmgjfkejlkaaGreatProg
import Derived.Test.YtaikmgjfkejlkaaGreatS101
import Derived.Test.YtaikmgjfkejlkaaGreatS106
import Derived.Sort.Statements
import Derived.Shelf.SlSortCmp.Insertion
set_option linter.all false
set_option maxHeartbeats 4000000
set_option maxRecDepth 100000
section
namespace Go.Sx
open Go.Proofs
open IntKind (i64 u64)
variable {l0 l1:List Nat}{p:Prop}
theorem gj(a0:JL l0)(a1:JL l1)(h:JL l0->JL l1->p:=by intro ja jb;(first|done|(repeat' (first|with_reducible refine And.intro ?_ ?_|((with_reducible show _≠_);first|assumption|omega|(simp_all [ci,d8];done) |grind) |with_reducible intro _)) <;>(first|done|with_reducible exact Empty.elim ‹Empty› |with_reducible assumption|rfl|omega|assumption|decide|exact fk ja|exact fk jb|(simp only[*,cond_true,cond_false,alZ,amd,go_sem];done) |(simp only[*,cond_true,cond_false,alZ,amd,go_sem];(repeat' (first|with_reducible refine And.intro ?_ ?_|((with_reducible show _≠_);first|assumption|omega|(simp_all [ci,d8];done) |grind) |with_reducible intro _)) <;>(first|done|assumption|rfl|omega|decide|exact fk ja|exact fk jb|(simp_all [ci,d8];done))) |(simp_all [okI,ci,d8];done) |(simp_all [ci,d8];(first|done|exact fk2 ja|exact fk2 jb)) |exact fk2 ja|exact fk2 jb))):p:=h a0 a1
theorem cU(a0:JL l0)(h:JL l0->p:=by intro ja;simp only[go_sem];all_goals exact uL ja):p:=h a0
def bj (x:bh)(known:Int)(hour:Int)(apI:List (Int×Bool)):Bool:=((((x.kind==4) ||(decide (x.known > known))) ||(decide (x.at_ > hour))) ||(aL .int .bool apI x.no))
@[go_sem] def wn:List SV->Option Con:=(pD .u0 λx=>(pX .int λknown=>(pX .int λhour=>(pXM .int .bool λapI=>(pE (.det True (.v (.bool (bj x known hour apI)))))))))
theorem oG:zs Tryz.prog 282 wn:=by
 have hG:=mG C1 C1;refine fN hG Tryz.f282 [.o] (ax λx=>(fO λknown=>(fO λhour=>(Kn λE=>(am (λO=>?_))))));dsimp only[an]at O;refine⟨Y2 rfl,L0,ag _,?_⟩;unfold ae Tryz.f282;try unfold bj
 exact zq2
def dM (a:bh)(b:bh):Int:=(be a.at_ b.at_)
@[go_sem] def wo:List SV->Option Con:=(pD .u0 λa=>(pD .u0 λb=>(pE (.det True (.v (.int .i64 (dM a b)))))))
theorem oH:zs Tryz.prog 284 wo:=by
 have hG:=mG (cp eK C1) C1;refine fN hG Tryz.f284 [.o] (ax λa=>(ax λb=>(am (λE=>?_))));dsimp only[an]at E;refine⟨Y2 rfl,L0,ag _,?_⟩;unfold ae Tryz.f284;try unfold dM
 exact zq2
@[go_sem] def eH (s_:List bh)(known:Int)(hour:Int)(apI:List (Int×Bool))(Q1:Nat)(ly:Unit):Int⊕Unit:=(bif(bj (s_.getD Q1 default) known hour apI)then .inl (Q1:Int)else .inr ())
def aX (s_:List bh)(known:Int)(hour:Int)(apI:List (Int×Bool)):Int:=(match aj (eH s_ known hour apI) s_.length 0 ()with| .inl gl=>gl| .inr ly=>(-1))
@[go_sem] def gM:List SV->Option Con:=(pR .u0 λs_=>(pFn 282 (pX .int λknown=>(pX .int λhour=>(pXM .int .bool λapI=>(pE ((pE (.det True (.v (.int .i64 (aX s_ known hour apI))))))))))))
theorem lw:zs Tryz.prog 225 gM:=by
 have hG:=mG (cn [.st .u0,.o,.o,.o] oG C1) C1;refine fN hG Tryz.f225 [.o] (bD λU=>(mr (fO λknown=>(fO λhour=>(Kn λE=>(am ((am (λY=>?_)))))))));dsimp only[an]at Y;refine⟨Y2 rfl,(λid st=>bif Nat.beq id 0 then some (LCR (ρ:=Int) (σ:=Unit) 0 [] [] (λV W=>⟨[(0,.rs .u0 U),(1,.fn 282 [] [.ep [.v (.int .i64 known)] 0,.ep [.v (.int .i64 hour)] 0,.ep [.rm .int .bool E] 0]),(7,.v (.int .i64 (U.length:Int))),(8,.v (.int .i64 (V:Int)))],[]⟩) (eH U known hour E) pT U.length () (U.length<=aH) (λ_=>.ret) (λO=>⟨[(4,.v (.int .i64 O))],[]⟩) st)else none),?_,?_⟩;unfold ae Tryz.f225;simp only[ak,true_and,and_true];refine bL mixed aB hG kr (λ_=>rfl) (U.length:Int) rfl fj (λhb0 V W X _ hw hc=>⟨L0,ag _,?_⟩) (λhb0 W hc=>?_);exact bB (jl []);exact bC (jl []);unfold ae Tryz.f225;try unfold aX
 exact zq2
@[go_sem] noncomputable def g7:List SV->Option Con:=λl=>(orC (fg l) (gM l))
def lL:zs Tryz.prog 225 g7:=(zs.or g5 lw)
@[go_sem] def bW (l_:List bh)(known:Int)(hour:Int)(apI:List (Int×Bool))(Q1:Nat)(ly:List bh×Int×Int):(Int×List bh)⊕(List bh×Int×Int):=letI q0:=ly.1.getD (Int.toNat ly.2.2) default;letI q1:=i64.wrap (ly.2.2+1);(bif(decide (ly.2.2< (ly.1.length:Int)))then(bif(!(bj q0 known hour apI))then .inr ((ly.1.set (Int.toNat ly.2.1) q0),(i64.wrap (ly.2.1+1)),q1)else .inr (ly.1,ly.2.1,q1))else .inl (ly.2.1,ly.1))
def cj (l_:List bh)(known:Int)(hour:Int)(apI:List (Int×Bool))(Q1:Nat)(ly:List bh×Int×Int):Prop:=letI q0:=(ly.1.length:Int);(ly.1.length<=aH->((decide (ly.2.2<q0))=true->((0<=ly.2.2/\ly.2.2<q0)/\((!(bj (ly.1.getD (Int.toNat ly.2.2) default) known hour apI))=true->(0<=ly.2.1/\ly.2.1<q0)))))
def br (l_:List bh)(known:Int)(hour:Int)(apI:List (Int×Bool)):List bh:=letI q0:=aX l_ known hour apI;(bif(q0==(-1))then l_ else(match aj (bW l_ known hour apI) (l_.length+1) 0 (l_,q0,(i64.wrap (q0+1)))with| .inl gl=>(((wF .u0 gl.2 gl.1 (gl.2.length:Int)).take (Int.toNat gl.1)).drop 0) | .inr ly=>default))
def bE (l_:List bh)(known:Int)(hour:Int)(apI:List (Int×Bool)):Prop:=letI q0:=aX l_ known hour apI;letI q1:=bW l_ known hour apI;letI q2:=(l_,q0,(i64.wrap (q0+1)));letI q3:=l_.length+1;((q0==(-1))=false->(okI q1 (cj l_ known hour apI) q3 0 q2/\(∀ z_,aj q1 q3 0 q2≠ .inr z_)/\(∀ gl,aj q1 q3 0 q2=.inl gl->((0<=gl.1/\gl.1<=(gl.2.length:Int))/\(0<=0/\0<=gl.1/\gl.1<=((wF .u0 gl.2 gl.1 (gl.2.length:Int)).length:Int))))))
noncomputable def g8:List SV->List Ob->Option apd:=i7 (λx_:(List bh)×Int×Int×(List (Int×Bool)) =>[.os 0,.fn 282 [] [.ptr 1 0,.ptr 2 0,.ptr 3 0]]) (λx_=>[.row .u0 x_.1,.cells [.v (.int .i64 x_.2.1)],.cells [.v (.int .i64 x_.2.2.1)],.cells [.os 4],.mp .int .bool x_.2.2.2 none]) (λx_=>ft (bE x_.1 x_.2.1 x_.2.2.1 x_.2.2.2) (.os 5) [.dead,.cells [.v (.int .i64 x_.2.1)],.cells [.v (.int .i64 x_.2.2.1)],.cells [.os 4],.mp .int .bool x_.2.2.2 none,.row .u0 (br x_.1 x_.2.1 x_.2.2.1 x_.2.2.2)])
@[go_sem] theorem wp (l_:List bh)(known:Int)(hour:Int)(apI:List (Int×Bool)){p4_:Option (Nat×Option Tag.int.T)}(ar4:p4_=none):g8 ([.os 0,.fn (282:Nat) [] [.ptr 1 0,.ptr 2 0,.ptr 3 0]]) ([.row .u0 l_,.cells [.v (.int .i64 known)],.cells [.v (.int .i64 hour)],.cells [.os 4],.mp .int .bool apI p4_])=some (ft (bE l_ known hour apI) (.os 5) [.dead,.cells [.v (.int .i64 known)],.cells [.v (.int .i64 hour)],.cells [.os 4],.mp .int .bool apI none,.row .u0 (br l_ known hour apI)]):=by
 subst ar4;exact fF (A:=λx_:(List bh)×Int×Int×(List (Int×Bool)) =>[.os 0,.fn 282 [] [.ptr 1 0,.ptr 2 0,.ptr 3 0]]) (H:=λx_=>[.row .u0 x_.1,.cells [.v (.int .i64 x_.2.1)],.cells [.v (.int .i64 x_.2.2.1)],.cells [.os 4],.mp .int .bool x_.2.2.2 none]) (K:=λx_=>ft (bE x_.1 x_.2.1 x_.2.2.1 x_.2.2.2) (.os 5) [.dead,.cells [.v (.int .i64 x_.2.1)],.cells [.v (.int .i64 x_.2.2.1)],.cells [.os 4],.mp .int .bool x_.2.2.2 none,.row .u0 (br x_.1 x_.2.1 x_.2.2.1 x_.2.2.2)]) (x:=(l_,known,hour,apI))
theorem ar6(a0:JL l0)(a1:JL l1)(h:JL l0->JL l1->p:=by intro ja jb;simp only[go_sem,g7];all_goals exact gj ja jb):p:=h a0 a1
theorem lM:ape Tryz.prog 280 (g8):=by
 have hG:=mG (cn [.sl .u0,.o] lL (cn [.st .u0,.o,.o,.o] oG C1)) C1;refine fR hG Tryz.f280 (λl o Y h=>?_);obtain⟨⟨V,known,hour,E⟩,rfl,rfl,rfl⟩:=dP h;clear h;try dsimp only
 refine⟨_,_,_,rfl,λhp=>?_⟩;unfold bE at hp;refine⟨Y2 rfl,(λid st=>bif Nat.beq id 0 then some (LCV (ρ:=(Int×List bh)) (σ:=(List bh×Int×Int)) 5 [] [0,1,2,3,4] (λW U=>⟨[(0,.os 0),(1,.fn 282 [] [.ptr 1 0,.ptr 2 0,.ptr 3 0]),(5,.v (.int .i64 U.2.1)),(6,.v (.int .i64 U.2.2))],[.row .u0 U.1,.cells [.v (.int .i64 known)],.cells [.v (.int .i64 hour)],.cells [.os 4],.mp .int .bool E none]⟩) (bW V known hour E) (cj V known hour E) (V.length+1) (V,(aX V known hour E),(i64.wrap ((aX V known hour E)+1))) (λ_=>.normal) (λO=>⟨[(0,.os 0),(5,.v (.int .i64 O.1))],[.row .u0 O.2,.cells [.v (.int .i64 known)],.cells [.v (.int .i64 hour)],.cells [.os 4],.mp .int .bool E none]⟩) st)else none),?_,?_⟩;unfold ae Tryz.f280;simp only[ak,true_and,and_true,and_assoc];refine eJ mixed aB hG kr (λ_=>rfl) λW U X=>⟨L0,ag _,?_⟩;unfold cj at X;exact cU (jl [0,1,2,3,4]);unfold ae Tryz.f280;try unfold br
 exact ar6 (jl [0,1,2,3,4,0]) (jl [0,1,2,3,4,5])
@[go_sem] def bu (a:Int)(l_:List bh)(k_1:Nat)(s_1:List bh×Int):(List bh)⊕(List bh×Int):=letI q0:=i64.wrap (s_1.2 - 1);letI q1:=s_1.1.getD (Int.toNat s_1.2) default;letI q2:=s_1.1.getD (Int.toNat q0) default;(bif((decide (s_1.2 > a))&&(decide ((dM q1 q2) <0)))then .inr (((s_1.1.set (Int.toNat s_1.2) q2).set (Int.toNat q0) q1),q0)else .inl s_1.1)
def bJ (a:Int)(l_:List bh)(k_1:Nat)(s_1:List bh×Int):Prop:=letI q0:=i64.wrap (s_1.2 - 1);letI q2:=decide (s_1.2 > a);letI q3:=(s_1.1.length:Int);letI q1:=0<=s_1.2/\s_1.2<q3;letI q4:=s_1.1.getD (Int.toNat q0) default;((q2=true->q1)/\((q2=true->(0<=q0/\q0<q3))/\((q2&&(decide ((dM (s_1.1.getD (Int.toNat s_1.2) default) q4) <0)))=true->((0<=q0/\q0<q3)/\(q1/\(q1/\(0<=q0/\q0< ((s_1.1.set (Int.toNat s_1.2) q4).length:Int))))))))
@[go_sem] def a9 (a:Int)(b:Int)(l_:List bh)(Q1:Nat)(ly:List bh×Int):(List bh)⊕(List bh×Int):=(bif(decide (ly.2<b))then(match aj (bu a l_) (l_.length+1) 0 (ly.1,ly.2)with| .inl apR=>.inr (apR,(i64.wrap (ly.2+1))) | .inr s_1=>.inr default)else .inl ly.1)
def bf (a:Int)(b:Int)(l_:List bh)(Q1:Nat)(ly:List bh×Int):Prop:=letI q0:=bu a l_;((decide (ly.2<b))=true->(okI q0 (bJ a l_) (l_.length+1) 0 (ly.1,ly.2)/\(∀ z_,aj q0 (l_.length+1) 0 (ly.1,ly.2)≠ .inr z_)))
def aG (a:Int)(b:Int)(l_:List bh):List bh:=(match aj (a9 a b l_) (l_.length+1) 0 (l_,(i64.wrap (a+1)))with| .inl gl=>gl| .inr ly=>default)
def a_ (a:Int)(b:Int)(l_:List bh):Prop:=letI q0:=a9 a b l_;letI q1:=(l_,(i64.wrap (a+1)));(okI q0 (bf a b l_) (l_.length+1) 0 q1/\(∀ z_,aj q0 (l_.length+1) 0 q1≠ .inr z_))
noncomputable def gN:List SV->List Ob->Option apd:=i7 (λx_:Int×Int×(List bh) =>[.os 0,.v (.int .i64 x_.1),.v (.int .i64 x_.2.1),.fn 284 [] []]) (λx_=>[.row .u0 x_.2.2]) (λx_=>ft (a_ x_.1 x_.2.1 x_.2.2) (.tup []) [.row .u0 (aG x_.1 x_.2.1 x_.2.2)])
@[go_sem]def v9 (a:Int)(b:Int)(l_:List bh):gN ([.os 0,.v (.int .i64 a),.v (.int .i64 b),.fn 284 [] []]) ([.row .u0 l_])=some (ft (a_ a b l_) (.tup []) [.row .u0 (aG a b l_)]):=fF (A:=λx_:Int×Int×(List bh) =>[.os 0,.v (.int .i64 x_.1),.v (.int .i64 x_.2.1),.fn 284 [] []]) (H:=λx_=>[.row .u0 x_.2.2]) (K:=λx_=>ft (a_ x_.1 x_.2.1 x_.2.2) (.tup []) [.row .u0 (aG x_.1 x_.2.1 x_.2.2)]) (x:=(a,b,l_))
theorem lz:ape Tryz.prog 338 (gN):=by
 have hG:=mG (cn [.st .u0,.st .u0] oH C1) C1;refine fR hG Tryz.f338 (λl o con h=>?_);obtain⟨⟨a,b,O⟩,rfl,rfl,rfl⟩:=dP h;clear h;try dsimp only
 refine⟨_,_,_,rfl,λhp=>?_⟩;unfold a_ at hp;refine⟨Y2 rfl,(λid st=>bif Nat.beq id 0 then some (LCV (ρ:=(List bh)) (σ:=(List bh×Int)) 1 [] [0] (λX E=>⟨[(0,.os 0),(1,.v (.int .i64 a)),(2,.v (.int .i64 b)),(3,.fn 284 [] []),(8,.v (.int .i64 E.2))],[.row .u0 E.1]⟩) (a9 a b O) (bf a b O) (O.length+1) (O,(i64.wrap (a+1))) (λ_=>.normal) (λV=>⟨[],[.row .u0 V]⟩) st)else none),?_,?_⟩;unfold ae Tryz.f338;simp only[ak,true_and,and_true,and_assoc];refine eJ mixed aB hG kr (λ_=>rfl) λX E hq0=>⟨(λid st=>bif Nat.beq id 2 then some (LCV (ρ:=(List bh)) (σ:=(List bh×Int)) 1 [] [0] (λY W=>⟨[(0,.os 0),(1,.v (.int .i64 a)),(2,.v (.int .i64 b)),(3,.fn 284 [] []),(8,.v (.int .i64 E.2)),(9,.v (.int .i64 W.2))],[.row .u0 W.1]⟩) (bu a O) (bJ a O) (O.length+1) (E.1,E.2) (λ_=>.normal) (λU=>⟨[(0,.os 0),(1,.v (.int .i64 a)),(2,.v (.int .i64 b)),(3,.fn 284 [] []),(8,.v (.int .i64 E.2))],[.row .u0 U]⟩) st)else none),?_,?_⟩;simp only[ak,true_and,and_true];refine eJ mixed aB hG kr (λ_=>rfl) λY W hq1=>⟨L0,ag _,?_⟩;unfold bJ at hq1;exact cU (jl [0]);unfold bf at hq0;exact cU (jl [0]);unfold ae Tryz.f338;try unfold aG
 exact cU (jl [0])
@[go_sem] def ce (a:Int)(b:Int)(n:Int)(Q1:Nat)(ly:List bh):Empty⊕(List bh):=letI q0:=Int.toNat (i64.wrap (a+(Q1:Int)));letI q1:=Int.toNat (i64.wrap (b+(Q1:Int)));.inr ((ly.set q0 (ly.getD q1 default)).set q1 (ly.getD q0 default))
def cJ (a:Int)(b:Int)(n:Int)(Q1:Nat)(ly:List bh):Prop:=letI q0:=i64.wrap (b+(Q1:Int));letI q1:=i64.wrap (a+(Q1:Int));letI q2:=(ly.length:Int);((0<=q0/\q0<q2)/\((0<=q1/\q1<q2)/\((0<=q1/\q1<q2)/\(0<=q0/\q0< ((ly.set (Int.toNat q1) (ly.getD (Int.toNat q0) default)).length:Int)))))
def bp (a:Int)(b:Int)(n:Int)(l_:List bh):List bh:=(match aj (ce a b n) (Int.toNat n) 0 l_ with| .inl x=>x.elim| .inr ly=>ly)
def ba (a:Int)(b:Int)(n:Int)(l_:List bh):Prop:=((n<9223372036854775808)/\okI (ce a b n) (cJ a b n) (Int.toNat n) 0 l_)
noncomputable def iP:List SV->List Ob->Option apd:=i7 (λx_:Int×Int×Int×(List bh) =>[.os 0,.v (.int .i64 x_.1),.v (.int .i64 x_.2.1),.v (.int .i64 x_.2.2.1),.fn 284 [] []]) (λx_=>[.row .u0 x_.2.2.2]) (λx_=>ft (ba x_.1 x_.2.1 x_.2.2.1 x_.2.2.2) (.tup []) [.row .u0 (bp x_.1 x_.2.1 x_.2.2.1 x_.2.2.2)])
@[go_sem]def xP (a:Int)(b:Int)(n:Int)(l_:List bh):iP ([.os 0,.v (.int .i64 a),.v (.int .i64 b),.v (.int .i64 n),.fn 284 [] []]) ([.row .u0 l_])=some (ft (ba a b n l_) (.tup []) [.row .u0 (bp a b n l_)]):=fF (A:=λx_:Int×Int×Int×(List bh) =>[.os 0,.v (.int .i64 x_.1),.v (.int .i64 x_.2.1),.v (.int .i64 x_.2.2.1),.fn 284 [] []]) (H:=λx_=>[.row .u0 x_.2.2.2]) (K:=λx_=>ft (ba x_.1 x_.2.1 x_.2.2.1 x_.2.2.2) (.tup []) [.row .u0 (bp x_.1 x_.2.1 x_.2.2.1 x_.2.2.2)]) (x:=(a,b,n,l_))
theorem mW:ape Tryz.prog 349 (iP):=by
 have hG:=mG C1 C1;refine fR hG Tryz.f349 (λl o W h=>?_);obtain⟨⟨a,b,n,X⟩,rfl,rfl,rfl⟩:=dP h;clear h;try dsimp only
 refine⟨_,_,_,rfl,λY=>?_⟩;unfold ba at Y;refine⟨Y2 rfl,(λid st=>bif Nat.beq id 0 then some (LCR (ρ:=Empty) (σ:=(List bh)) 1 [] [0] (λO E=>⟨[(0,.os 0),(1,.v (.int .i64 a)),(2,.v (.int .i64 b)),(3,.v (.int .i64 n)),(10,.v (.int .i64 (O:Int)))],[.row .u0 E]⟩) (ce a b n) (cJ a b n) (Int.toNat n) X (n<9223372036854775808) ((·.elim)) ((·.elim)) st)else none),?_,?_⟩;unfold ae Tryz.f349;simp only[ak,true_and,and_true,and_assoc];refine bL mixed aB hG kr (λ_=>rfl) n rfl id (λhb0 O E V U hw hc=>⟨L0,ag _,?_⟩) (λhb0 E hc=>?_);unfold cJ at U;try simp only[hw,alI]at U
 exact bB (jl [0]);exact bC (jl [0]);unfold ae Tryz.f349;try unfold bp
 exact cU (jl [0])
@[go_sem] def cK (a:Int)(m:Int)(b:Int)(Q1:Nat)(ly:List bh×Int×Int):(Int×List bh)⊕(List bh×Int×Int):=letI q0:=i64.wrap (m - ly.2.1);(bif(ly.2.1 !=ly.2.2)then(bif(decide (ly.2.1 > ly.2.2))then .inr ((bp q0 m ly.2.2 ly.1),(i64.wrap (ly.2.1 - ly.2.2)),ly.2.2)else .inr ((bp q0 (i64.wrap ((i64.wrap (m+ly.2.2)) - ly.2.1)) ly.2.1 ly.1),ly.2.1,(i64.wrap (ly.2.2 - ly.2.1))))else .inl (ly.2.1,ly.1))
def db (a:Int)(m:Int)(b:Int)(Q1:Nat)(ly:List bh×Int×Int):Prop:=letI q0:=i64.wrap (m - ly.2.1);letI q1:=decide (ly.2.1 > ly.2.2);((ly.2.1 !=ly.2.2)=true->((q1=true->(ba q0 m ly.2.2 ly.1))/\(q1=false->(ba q0 (i64.wrap ((i64.wrap (m+ly.2.2)) - ly.2.1)) ly.2.1 ly.1))))
def aF (a:Int)(m:Int)(b:Int)(l_:List bh):List bh:=(match aj (cK a m b) (Int.toNat (b - a)+1) 0 (l_,(i64.wrap (m - a)),(i64.wrap (b - m)))with| .inl gl=>(bp (i64.wrap (m - gl.1)) m gl.1 gl.2) | .inr ly=>default)
def bO (a:Int)(m:Int)(b:Int)(l_:List bh):Prop:=letI q0:=(l_,(i64.wrap (m - a)),(i64.wrap (b - m)));letI q1:=cK a m b;letI q2:=Int.toNat (b - a)+1;(okI q1 (db a m b) q2 0 q0/\(∀ z_,aj q1 q2 0 q0≠ .inr z_)/\(∀ gl,aj q1 q2 0 q0=.inl gl->(ba (i64.wrap (m - gl.1)) m gl.1 gl.2)))
noncomputable def jI:List SV->List Ob->Option apd:=i7 (λx_:Int×Int×Int×(List bh) =>[.os 0,.v (.int .i64 x_.1),.v (.int .i64 x_.2.1),.v (.int .i64 x_.2.2.1),.fn 284 [] []]) (λx_=>[.row .u0 x_.2.2.2]) (λx_=>ft (bO x_.1 x_.2.1 x_.2.2.1 x_.2.2.2) (.tup []) [.row .u0 (aF x_.1 x_.2.1 x_.2.2.1 x_.2.2.2)])
@[go_sem]def zk (a:Int)(m:Int)(b:Int)(l_:List bh):jI ([.os 0,.v (.int .i64 a),.v (.int .i64 m),.v (.int .i64 b),.fn 284 [] []]) ([.row .u0 l_])=some (ft (bO a m b l_) (.tup []) [.row .u0 (aF a m b l_)]):=fF (A:=λx_:Int×Int×Int×(List bh) =>[.os 0,.v (.int .i64 x_.1),.v (.int .i64 x_.2.1),.v (.int .i64 x_.2.2.1),.fn 284 [] []]) (H:=λx_=>[.row .u0 x_.2.2.2]) (K:=λx_=>ft (bO x_.1 x_.2.1 x_.2.2.1 x_.2.2.2) (.tup []) [.row .u0 (aF x_.1 x_.2.1 x_.2.2.1 x_.2.2.2)]) (x:=(a,m,b,l_))
theorem oI:ape Tryz.prog 345 (jI):=by
 have hG:=mG C1 (co mW C1);refine fR hG Tryz.f345 (λl o W h=>?_);obtain⟨⟨a,m,b,X⟩,rfl,rfl,rfl⟩:=dP h;clear h;try dsimp only
 refine⟨_,_,_,rfl,λY=>?_⟩;unfold bO at Y;refine⟨Y2 rfl,(λid st=>bif Nat.beq id 0 then some (LCV (ρ:=(Int×List bh)) (σ:=(List bh×Int×Int)) 1 [] [0] (λU O=>⟨[(0,.os 0),(2,.v (.int .i64 m)),(4,.fn 284 [] []),(10,.v (.int .i64 O.2.1)),(11,.v (.int .i64 O.2.2))],[.row .u0 O.1]⟩) (cK a m b) (db a m b) (Int.toNat (b - a)+1) (X,(i64.wrap (m - a)),(i64.wrap (b - m))) (λ_=>.normal) (λE=>⟨[(0,.os 0),(2,.v (.int .i64 m)),(4,.fn 284 [] []),(10,.v (.int .i64 E.1))],[.row .u0 E.2]⟩) st)else none),?_,?_⟩;unfold ae Tryz.f345;simp only[ak,true_and,and_true,and_assoc];refine eJ mixed aB hG kr (λ_=>rfl) λU O V=>⟨L0,ag _,?_⟩;unfold db at V;exact cU (jl [0]);unfold ae Tryz.f345;try unfold aF
 exact cU (jl [0])
noncomputable def Pr (ap5:Int->Int->Int->List bh->List bh)(apV:Int->Int->Int->List bh->Prop):List SV->List Ob->Option apd:=i7 (λx_:Int×Int×Int×(List bh) =>[.os 0,.v (.int .i64 x_.1),.v (.int .i64 x_.2.1),.v (.int .i64 x_.2.2.1),.fn 284 [] []]) (λx_=>[.row .u0 x_.2.2.2]) (λx_=>ft (apV x_.1 x_.2.1 x_.2.2.1 x_.2.2.2) (.tup []) [.row .u0 (ap5 x_.1 x_.2.1 x_.2.2.1 x_.2.2.2)])
@[go_sem]def IV (ap5:Int->Int->Int->List bh->List bh)(apV:Int->Int->Int->List bh->Prop)(a:Int)(m:Int)(b:Int)(l_:List bh):Pr ap5 apV ([.os 0,.v (.int .i64 a),.v (.int .i64 m),.v (.int .i64 b),.fn 284 [] []]) ([.row .u0 l_])=some (ft (apV a m b l_) (.tup []) [.row .u0 (ap5 a m b l_)]):=fF (A:=λx_:Int×Int×Int×(List bh) =>[.os 0,.v (.int .i64 x_.1),.v (.int .i64 x_.2.1),.v (.int .i64 x_.2.2.1),.fn 284 [] []]) (H:=λx_=>[.row .u0 x_.2.2.2]) (K:=λx_=>ft (apV x_.1 x_.2.1 x_.2.2.1 x_.2.2.2) (.tup []) [.row .u0 (ap5 x_.1 x_.2.1 x_.2.2.1 x_.2.2.2)]) (x:=(a,m,b,l_))
@[go_sem] def rT (a:Int)(l_:List bh)(Q1:Nat)(ly:Int×Int):Int⊕(Int×Int):=letI q0:=i64.wrap (lp .u64 (u64.wrap (i64.wrap (ly.1+ly.2))) 1);(bif(decide (ly.1<ly.2))then(bif(decide ((dM (l_.getD (Int.toNat q0) default) (l_.getD (Int.toNat a) default)) <0))then .inr ((i64.wrap (q0+1)),ly.2)else .inr (ly.1,q0))else .inl ly.1)
def sf (a:Int)(l_:List bh)(Q1:Nat)(ly:Int×Int):Prop:=letI q0:=i64.wrap (lp .u64 (u64.wrap (i64.wrap (ly.1+ly.2))) 1);((decide (ly.1<ly.2))=true->((0<=q0/\q0< (l_.length:Int))/\(0<=a/\a< (l_.length:Int))))
@[go_sem] def vt (l_:List bh)(gl:Int)(k_1:Nat)(s_1:List bh×Int):(List bh)⊕(List bh×Int):=letI q0:=i64.wrap (s_1.2+1);(bif(decide (s_1.2< (i64.wrap (gl - 1))))then .inr (((s_1.1.set (Int.toNat s_1.2) (s_1.1.getD (Int.toNat q0) default)).set (Int.toNat q0) (s_1.1.getD (Int.toNat s_1.2) default)),q0)else .inl s_1.1)
def uN (l_:List bh)(gl:Int)(k_1:Nat)(s_1:List bh×Int):Prop:=letI q0:=i64.wrap (s_1.2+1);letI q2:=(s_1.1.length:Int);letI q1:=0<=s_1.2/\s_1.2<q2;((decide (s_1.2< (i64.wrap (gl - 1))))=true->((0<=q0/\q0<q2)/\(q1/\(q1/\(0<=q0/\q0< ((s_1.1.set (Int.toNat s_1.2) (s_1.1.getD (Int.toNat q0) default)).length:Int))))))
@[go_sem] def rU (m:Int)(l_:List bh)(k_2:Nat)(s_2:Int×Int):Int⊕(Int×Int):=letI q0:=i64.wrap (lp .u64 (u64.wrap (i64.wrap (s_2.1+s_2.2))) 1);(bif(decide (s_2.1<s_2.2))then(bif(!(decide ((dM (l_.getD (Int.toNat m) default) (l_.getD (Int.toNat q0) default)) <0)))then .inr ((i64.wrap (q0+1)),s_2.2)else .inr (s_2.1,q0))else .inl s_2.1)
def sg (m:Int)(l_:List bh)(k_2:Nat)(s_2:Int×Int):Prop:=letI q0:=i64.wrap (lp .u64 (u64.wrap (i64.wrap (s_2.1+s_2.2))) 1);((decide (s_2.1<s_2.2))=true->((0<=m/\m< (l_.length:Int))/\(0<=q0/\q0< (l_.length:Int))))
@[go_sem] def vz (l_:List bh)(apG:Int)(k_3:Nat)(s_3:List bh×Int):(List bh)⊕(List bh×Int):=letI q0:=i64.wrap (s_3.2 - 1);(bif(decide (s_3.2 > apG))then .inr (((s_3.1.set (Int.toNat s_3.2) (s_3.1.getD (Int.toNat q0) default)).set (Int.toNat q0) (s_3.1.getD (Int.toNat s_3.2) default)),q0)else .inl s_3.1)
def uO (l_:List bh)(apG:Int)(k_3:Nat)(s_3:List bh×Int):Prop:=letI q0:=i64.wrap (s_3.2 - 1);letI q2:=(s_3.1.length:Int);letI q1:=0<=s_3.2/\s_3.2<q2;((decide (s_3.2 > apG))=true->((0<=q0/\q0<q2)/\(q1/\(q1/\(0<=q0/\q0< ((s_3.1.set (Int.toNat s_3.2) (s_3.1.getD (Int.toNat q0) default)).length:Int))))))
@[go_sem] def xQ (a:Int)(m:Int)(b:Int)(l_:List bh)(k_4:Nat)(s_4:Int×Int):Int⊕(Int×Int):=letI q0:=i64.wrap (lp .u64 (u64.wrap (i64.wrap (s_4.1+s_4.2))) 1);(bif(decide (s_4.1<s_4.2))then(bif(!(decide ((dM (l_.getD (Int.toNat (i64.wrap ((i64.wrap ((i64.wrap ((i64.wrap (lp .u64 (u64.wrap (i64.wrap (a+b))) 1))+m)) - 1)) - q0))) default) (l_.getD (Int.toNat q0) default)) <0)))then .inr ((i64.wrap (q0+1)),s_4.2)else .inr (s_4.1,q0))else .inl s_4.1)
def sh (a:Int)(m:Int)(b:Int)(l_:List bh)(k_4:Nat)(s_4:Int×Int):Prop:=letI q0:=i64.wrap (lp .u64 (u64.wrap (i64.wrap (s_4.1+s_4.2))) 1);letI q1:=i64.wrap ((i64.wrap ((i64.wrap ((i64.wrap (lp .u64 (u64.wrap (i64.wrap (a+b))) 1))+m)) - 1)) - q0);((decide (s_4.1<s_4.2))=true->((0<=q1/\q1< (l_.length:Int))/\(0<=q0/\q0< (l_.length:Int))))
def Ky (ap5:Int->Int->Int->List bh->List bh)(apV:Int->Int->Int->List bh->Prop)(a:Int)(m:Int)(b:Int)(l_:List bh):List bh:=letI q0:=i64.wrap (lp .u64 (u64.wrap (i64.wrap (a+b))) 1);letI q1:=i64.wrap (q0+m);letI q2:=l_.length+1;(bif((i64.wrap (m - a)) ==1)then(match aj (rT a l_) q2 0 (m,b)with| .inl gl=>(match aj (vt l_ gl) q2 0 (l_,a)with| .inl apR=>apR| .inr s_1=>default) | .inr ly=>default)else(bif((i64.wrap (b - m)) ==1)then(match aj (rU m l_) q2 0 (a,m)with| .inl apG=>(match aj (vz l_ apG) q2 0 (l_,m)with| .inl aqT=>aqT| .inr s_3=>default) | .inr s_2=>default)else(match aj (xQ a m b l_) q2 0 ((bif(decide (m > q0))then(i64.wrap (q1 - b))else a),(bif(decide (m > q0))then q0 else m))with| .inl ao7=>(bif((decide (ao7<m))&&(decide (m< (i64.wrap (q1 - ao7)))))then(bif((decide (a<ao7))&&(decide (ao7<q0)))then(bif((decide (q0< (i64.wrap (q1 - ao7))))&&(decide ((i64.wrap (q1 - ao7)) <b)))then(ap5 q0 (i64.wrap (q1 - ao7)) b (ap5 a ao7 q0 (aF ao7 m (i64.wrap (q1 - ao7)) l_)))else(ap5 a ao7 q0 (aF ao7 m (i64.wrap (q1 - ao7)) l_)))else(bif((decide (q0< (i64.wrap (q1 - ao7))))&&(decide ((i64.wrap (q1 - ao7)) <b)))then(ap5 q0 (i64.wrap (q1 - ao7)) b (aF ao7 m (i64.wrap (q1 - ao7)) l_))else(aF ao7 m (i64.wrap (q1 - ao7)) l_)))else(bif((decide (a<ao7))&&(decide (ao7<q0)))then(bif((decide (q0< (i64.wrap (q1 - ao7))))&&(decide ((i64.wrap (q1 - ao7)) <b)))then(ap5 q0 (i64.wrap (q1 - ao7)) b (ap5 a ao7 q0 l_))else(ap5 a ao7 q0 l_))else(bif((decide (q0< (i64.wrap (q1 - ao7))))&&(decide ((i64.wrap (q1 - ao7)) <b)))then(ap5 q0 (i64.wrap (q1 - ao7)) b l_)else l_))) | .inr s_4=>default)))
def vA (ap5:Int->Int->Int->List bh->List bh)(apV:Int->Int->Int->List bh->Prop)(a:Int)(m:Int)(b:Int)(l_:List bh):Prop:=letI q0:=i64.wrap (lp .u64 (u64.wrap (i64.wrap (a+b))) 1);letI q1:=i64.wrap (q0+m);letI q2:=((bif(decide (m > q0))then(i64.wrap (q1 - b))else a),(bif(decide (m > q0))then q0 else m));letI q3:=l_.length+1;letI q4:=xQ a m b l_;letI q5:=(i64.wrap (m - a)) ==1;letI q6:=(i64.wrap (b - m)) ==1;letI q7:=rT a l_;letI q8:=rU m l_;((q5=true->(okI q7 (sf a l_) q3 0 (m,b)/\(∀ z_,aj q7 q3 0 (m,b)≠ .inr z_)/\(∀ gl,aj q7 q3 0 (m,b)=.inl gl->(okI (vt l_ gl) (uN l_ gl) q3 0 (l_,a)/\(∀ z_,aj (vt l_ gl) q3 0 (l_,a)≠ .inr z_)))))/\(q5=false->((q6=true->(okI q8 (sg m l_) q3 0 (a,m)/\(∀ z_,aj q8 q3 0 (a,m)≠ .inr z_)/\(∀ apG,aj q8 q3 0 (a,m)=.inl apG->(okI (vz l_ apG) (uO l_ apG) q3 0 (l_,m)/\(∀ z_,aj (vz l_ apG) q3 0 (l_,m)≠ .inr z_)))))/\(q6=false->(okI q4 (sh a m b l_) q3 0 q2/\(∀ z_,aj q4 q3 0 q2≠ .inr z_)/\(∀ ao7,aj q4 q3 0 q2=.inl ao7->((((decide (ao7<m))&&(decide (m< (i64.wrap (q1 - ao7)))))=true->((bO ao7 m (i64.wrap (q1 - ao7)) l_)/\((((decide (a<ao7))&&(decide (ao7<q0)))=true->((apV a ao7 q0 (aF ao7 m (i64.wrap (q1 - ao7)) l_))/\(((decide (q0< (i64.wrap (q1 - ao7))))&&(decide ((i64.wrap (q1 - ao7)) <b)))=true->(apV q0 (i64.wrap (q1 - ao7)) b (ap5 a ao7 q0 (aF ao7 m (i64.wrap (q1 - ao7)) l_))))))/\(((decide (a<ao7))&&(decide (ao7<q0)))=false->(((decide (q0< (i64.wrap (q1 - ao7))))&&(decide ((i64.wrap (q1 - ao7)) <b)))=true->(apV q0 (i64.wrap (q1 - ao7)) b (aF ao7 m (i64.wrap (q1 - ao7)) l_)))))))/\(((decide (ao7<m))&&(decide (m< (i64.wrap (q1 - ao7)))))=false->((((decide (a<ao7))&&(decide (ao7<q0)))=true->((apV a ao7 q0 l_)/\(((decide (q0< (i64.wrap (q1 - ao7))))&&(decide ((i64.wrap (q1 - ao7)) <b)))=true->(apV q0 (i64.wrap (q1 - ao7)) b (ap5 a ao7 q0 l_)))))/\(((decide (a<ao7))&&(decide (ao7<q0)))=false->(((decide (q0< (i64.wrap (q1 - ao7))))&&(decide ((i64.wrap (q1 - ao7)) <b)))=true->(apV q0 (i64.wrap (q1 - ao7)) b l_))))))))))))
noncomputable def ac3 (ap5:Int->Int->Int->List bh->List bh)(apV:Int->Int->Int->List bh->Prop):List SV->List Ob->Option apd:=i7 (λx_:Int×Int×Int×(List bh) =>[.os 0,.v (.int .i64 x_.1),.v (.int .i64 x_.2.1),.v (.int .i64 x_.2.2.1),.fn 284 [] []]) (λx_=>[.row .u0 x_.2.2.2]) (λx_=>ft (vA ap5 apV x_.1 x_.2.1 x_.2.2.1 x_.2.2.2) (.tup []) [.row .u0 (Ky ap5 apV x_.1 x_.2.1 x_.2.2.1 x_.2.2.2)])
theorem Y3 (U:Int->Int->Int->List bh->List bh)(O:Int->Int->Int->List bh->Prop)(hr:ape Tryz.prog 339 (Pr U O)):ape Tryz.prog 339 (ac3 U O):=by
 have hG:=mG (cn [.st .u0,.st .u0] oH C1) (co hr (co oI C1));refine fR hG Tryz.f339 (λl o con h=>?_);obtain⟨⟨a,m,b,E⟩,rfl,rfl,rfl⟩:=dP h;clear h;try dsimp only
 refine⟨_,_,_,rfl,λhp=>?_⟩;unfold vA at hp;refine⟨Y2 rfl,(λid st=>bif Nat.beq id 0 then some (LCV (ρ:=Int) (σ:=(Int×Int)) 1 [] [0] (λQ1 ly=>⟨[(0,.os 0),(1,.v (.int .i64 a)),(4,.fn 284 [] []),(10,.v (.int .i64 ly.1)),(11,.v (.int .i64 ly.2))],[.row .u0 E]⟩) (rT a E) (sf a E) (E.length+1) (m,b) (λ_=>.normal) (λgl=>⟨[(0,.os 0),(1,.v (.int .i64 a)),(10,.v (.int .i64 gl))],[.row .u0 E]⟩) st)else bif Nat.beq id 2 then some (LCV (ρ:=(List bh)) (σ:=(List bh×Int)) 1 [] [0] (λk_1 s_1=>⟨[(0,.os 0),(10,.v (.int .i64 (d8 (aj (rT a E) (E.length+1) 0 (m,b))))),(13,.v (.int .i64 s_1.2))],[.row .u0 s_1.1]⟩) (vt E (d8 (aj (rT a E) (E.length+1) 0 (m,b)))) (uN E (d8 (aj (rT a E) (E.length+1) 0 (m,b)))) (E.length+1) (E,a) (λ_=>.normal) (λX=>⟨[],[.row .u0 X]⟩) st)else bif Nat.beq id 4 then some (LCV (ρ:=Int) (σ:=(Int×Int)) 1 [] [0] (λk_2 V=>⟨[(0,.os 0),(2,.v (.int .i64 m)),(4,.fn 284 [] []),(14,.v (.int .i64 V.1)),(15,.v (.int .i64 V.2))],[.row .u0 E]⟩) (rU m E) (sg m E) (E.length+1) (a,m) (λ_=>.normal) (λapG=>⟨[(0,.os 0),(2,.v (.int .i64 m)),(14,.v (.int .i64 apG))],[.row .u0 E]⟩) st)else bif Nat.beq id 6 then some (LCV (ρ:=(List bh)) (σ:=(List bh×Int)) 1 [] [0] (λk_3 s_3=>⟨[(0,.os 0),(14,.v (.int .i64 (d8 (aj (rU m E) (E.length+1) 0 (a,m))))),(17,.v (.int .i64 s_3.2))],[.row .u0 s_3.1]⟩) (vz E (d8 (aj (rU m E) (E.length+1) 0 (a,m)))) (uO E (d8 (aj (rU m E) (E.length+1) 0 (a,m)))) (E.length+1) (E,m) (λ_=>.normal) (λY=>⟨[],[.row .u0 Y]⟩) st)else bif Nat.beq id 1000140 then some (JC (⟨[(0,.os 0),(1,.v (.int .i64 a)),(2,.v (.int .i64 m)),(3,.v (.int .i64 b)),(4,.fn 284 [] []),(18,.v (.int .i64 (i64.wrap (lp .u64 (u64.wrap (i64.wrap (a+b))) 1)))),(19,.v (.int .i64 (i64.wrap ((i64.wrap (lp .u64 (u64.wrap (i64.wrap (a+b))) 1))+m)))),(20,.v (.int .i64 (bif(decide (m > (i64.wrap (lp .u64 (u64.wrap (i64.wrap (a+b))) 1))))then(i64.wrap ((i64.wrap ((i64.wrap (lp .u64 (u64.wrap (i64.wrap (a+b))) 1))+m)) - b))else a))),(21,.v (.int .i64 (bif(decide (m > (i64.wrap (lp .u64 (u64.wrap (i64.wrap (a+b))) 1))))then(i64.wrap (lp .u64 (u64.wrap (i64.wrap (a+b))) 1))else m)))],[.row .u0 E]⟩))else bif Nat.beq id 8 then some (LCV (ρ:=Int) (σ:=(Int×Int)) 1 [] [0] (λk_4 s_4=>⟨[(0,.os 0),(1,.v (.int .i64 a)),(2,.v (.int .i64 m)),(3,.v (.int .i64 b)),(4,.fn 284 [] []),(18,.v (.int .i64 (i64.wrap (lp .u64 (u64.wrap (i64.wrap (a+b))) 1)))),(19,.v (.int .i64 (i64.wrap ((i64.wrap (lp .u64 (u64.wrap (i64.wrap (a+b))) 1))+m)))),(20,.v (.int .i64 s_4.1)),(21,.v (.int .i64 s_4.2)),(22,.v (.int .i64 (i64.wrap ((i64.wrap ((i64.wrap (lp .u64 (u64.wrap (i64.wrap (a+b))) 1))+m)) - 1))))],[.row .u0 E]⟩) (xQ a m b E) (sh a m b E) (E.length+1) ((bif(decide (m > (i64.wrap (lp .u64 (u64.wrap (i64.wrap (a+b))) 1))))then(i64.wrap ((i64.wrap ((i64.wrap (lp .u64 (u64.wrap (i64.wrap (a+b))) 1))+m)) - b))else a),(bif(decide (m > (i64.wrap (lp .u64 (u64.wrap (i64.wrap (a+b))) 1))))then(i64.wrap (lp .u64 (u64.wrap (i64.wrap (a+b))) 1))else m)) (λ_=>.normal) (λW=>⟨[(0,.os 0),(1,.v (.int .i64 a)),(2,.v (.int .i64 m)),(3,.v (.int .i64 b)),(4,.fn 284 [] []),(18,.v (.int .i64 (i64.wrap (lp .u64 (u64.wrap (i64.wrap (a+b))) 1)))),(19,.v (.int .i64 (i64.wrap ((i64.wrap (lp .u64 (u64.wrap (i64.wrap (a+b))) 1))+m)))),(20,.v (.int .i64 W))],[.row .u0 E]⟩) st)else none),?_,?_⟩;unfold ae Tryz.f339;simp only[ak,true_and,and_true,and_assoc];refine⟨?_,?_,?_,?_,?_⟩;refine eJ mixed aB hG kr (λ_=>rfl) λQ1 ly hq0=>⟨L0,ag _,?_⟩;unfold sf at hq0;exact cU (jl [0]);refine eJ mixed aB hG kr (λ_=>rfl) λk_1 s_1 hq1=>⟨L0,ag _,?_⟩;unfold uN at hq1;exact cU (jl [0]);refine eJ mixed aB hG kr (λ_=>rfl) λk_2 V hq2=>⟨L0,ag _,?_⟩;unfold sg at hq2;exact cU (jl [0]);refine eJ mixed aB hG kr (λ_=>rfl) λk_3 s_3 hq3=>⟨L0,ag _,?_⟩;unfold uO at hq3;exact cU (jl [0]);refine eJ mixed aB hG kr (λ_=>rfl) λk_4 s_4 hq4=>⟨L0,ag _,?_⟩;unfold sh at hq4;exact cU (jl [0]);unfold ae Tryz.f339;try unfold Ky
 exact cU (jl [0])
def qg:Nat->(Int->Int->Int->List bh->List bh)×(Int->Int->Int->List bh->Prop)
 |0=>(λ_ _ _ l=>l,λ_ _ _ _=>False)
 |n+1=>(Ky (qg n).1 (qg n).2,vA (qg n).1 (qg n).2)
theorem Ps:∀ n,ape Tryz.prog 339 (Pr (qg n).1 (qg n).2)
 |0=>by
  have hG:X2 Tryz.prog (mkG [] []):=oz C1 C1;refine MD mixed aB hG (fn:=Tryz.f339) (c:=ae Tryz.f339) kr kr kr kr λl o E h=>?_;obtain⟨⟨a,m,b,U⟩,rfl,rfl,rfl⟩:=dP h;exact⟨_,_,_,rfl,λO=>O.elim⟩
 |n+1=>Y3 _ _ (Ps n)
def cX (a:Int)(m:Int)(b:Int)(l_:List bh):List bh:=(qg (l_.length+1)).1 a m b l_
def cD (a:Int)(m:Int)(b:Int)(l_:List bh):Prop:=(qg (l_.length+1)).2 a m b l_
noncomputable def iX:List SV->List Ob->Option apd:=i7 (λx_:Int×Int×Int×(List bh) =>[.os 0,.v (.int .i64 x_.1),.v (.int .i64 x_.2.1),.v (.int .i64 x_.2.2.1),.fn 284 [] []]) (λx_=>[.row .u0 x_.2.2.2]) (λx_=>ft (cD x_.1 x_.2.1 x_.2.2.1 x_.2.2.2) (.tup []) [.row .u0 (cX x_.1 x_.2.1 x_.2.2.1 x_.2.2.2)])
@[go_sem]def yk (a:Int)(m:Int)(b:Int)(l_:List bh):iX ([.os 0,.v (.int .i64 a),.v (.int .i64 m),.v (.int .i64 b),.fn 284 [] []]) ([.row .u0 l_])=some (ft (cD a m b l_) (.tup []) [.row .u0 (cX a m b l_)]):=fF (A:=λx_:Int×Int×Int×(List bh) =>[.os 0,.v (.int .i64 x_.1),.v (.int .i64 x_.2.1),.v (.int .i64 x_.2.2.1),.fn 284 [] []]) (H:=λx_=>[.row .u0 x_.2.2.2]) (K:=λx_=>ft (cD x_.1 x_.2.1 x_.2.2.1 x_.2.2.2) (.tup []) [.row .u0 (cX x_.1 x_.2.1 x_.2.2.1 x_.2.2.2)]) (x:=(a,m,b,l_))
theorem nR:ape Tryz.prog 339 iX where
 enter:=λl h c e=>by
  obtain⟨⟨a,m,b,E⟩,rfl,rfl,rfl⟩:=dP e;exact(Ps (E.length+1)).enter _ _ _ (IV _ _ a m b E)
 calls:=λl h c e O=>by
  obtain⟨⟨a,m,b,E⟩,rfl,rfl,rfl⟩:=dP e;exact(Ps (E.length+1)).calls _ _ _ (IV _ _ a m b E) O
@[go_sem] def bM (n:Int)(Q1:Nat)(ly:List bh×Int×Int):(Int×List bh)⊕(List bh×Int×Int):=(bif(decide (ly.2.2<=n))then .inr ((aG ly.2.1 ly.2.2 ly.1),ly.2.2,(i64.wrap (ly.2.2+20)))else .inl (ly.2.1,ly.1))
def dc (n:Int)(Q1:Nat)(ly:List bh×Int×Int):Prop:=((decide (ly.2.2<=n))=true->(a_ ly.2.1 ly.2.2 ly.1))
@[go_sem] def cL (n:Int)(s_1:List bh×Int)(k_2:Nat)(s_2:List bh×Int×Int):(Int×List bh)⊕(List bh×Int×Int):=(bif(decide (s_2.2.2<=n))then .inr ((cX s_2.2.1 (i64.wrap (s_2.2.1+s_1.2)) s_2.2.2 s_2.1),s_2.2.2,(i64.wrap (s_2.2.2+(i64.wrap (2*s_1.2)))))else .inl (s_2.2.1,s_2.1))
def df (n:Int)(s_1:List bh×Int)(k_2:Nat)(s_2:List bh×Int×Int):Prop:=((decide (s_2.2.2<=n))=true->(cD s_2.2.1 (i64.wrap (s_2.2.1+s_1.2)) s_2.2.2 s_2.1))
@[go_sem] def bZ (n:Int)(k_1:Nat)(s_1:List bh×Int):(List bh)⊕(List bh×Int):=letI q0:=i64.wrap (s_1.2*2);(bif(decide (s_1.2<n))then(match aj (cL n s_1) (Int.toNat n+1) 0 (s_1.1,0,(i64.wrap (2*s_1.2)))with| .inl apG=>(bif(decide ((i64.wrap (apG.1+s_1.2)) <n))then .inr ((cX apG.1 (i64.wrap (apG.1+s_1.2)) n apG.2),q0)else .inr (apG.2,q0)) | .inr s_2=>.inr default)else .inl s_1.1)
def ct (n:Int)(k_1:Nat)(s_1:List bh×Int):Prop:=letI q0:=(s_1.1,0,(i64.wrap (2*s_1.2)));letI q1:=cL n s_1;letI q2:=Int.toNat n+1;((decide (s_1.2<n))=true->(okI q1 (df n s_1) q2 0 q0/\(∀ z_,aj q1 q2 0 q0≠ .inr z_)/\(∀ apG,aj q1 q2 0 q0=.inl apG->((decide ((i64.wrap (apG.1+s_1.2)) <n))=true->(cD apG.1 (i64.wrap (apG.1+s_1.2)) n apG.2)))))
def cF (n:Int)(l_:List bh):List bh:=(match aj (bM n) (Int.toNat n+1) 0 (l_,0,20)with| .inl gl=>(match aj (bZ n) (Int.toNat n+1) 0 ((aG gl.1 n gl.2),20)with| .inl apR=>apR| .inr s_1=>default) | .inr ly=>default)
def cd (n:Int)(l_:List bh):Prop:=letI q0:=bM n;letI q1:=Int.toNat n+1;letI q2:=bZ n;letI q3:=(l_,0,20);(okI q0 (dc n) q1 0 q3/\(∀ z_,aj q0 q1 0 q3≠ .inr z_)/\(∀ gl,aj q0 q1 0 q3=.inl gl->((a_ gl.1 n gl.2)/\(okI q2 (ct n) q1 0 ((aG gl.1 n gl.2),20)/\(∀ z_,aj q2 q1 0 ((aG gl.1 n gl.2),20)≠ .inr z_)))))
noncomputable def jJ:List SV->List Ob->Option apd:=i7 (λx_:Int×(List bh) =>[.os 0,.v (.int .i64 x_.1),.fn 284 [] []]) (λx_=>[.row .u0 x_.2]) (λx_=>ft (cd x_.1 x_.2) (.tup []) [.row .u0 (cF x_.1 x_.2)])
@[go_sem]def zl (n:Int)(l_:List bh):jJ ([.os 0,.v (.int .i64 n),.fn 284 [] []]) ([.row .u0 l_])=some (ft (cd n l_) (.tup []) [.row .u0 (cF n l_)]):=fF (A:=λx_:Int×(List bh) =>[.os 0,.v (.int .i64 x_.1),.fn 284 [] []]) (H:=λx_=>[.row .u0 x_.2]) (K:=λx_=>ft (cd x_.1 x_.2) (.tup []) [.row .u0 (cF x_.1 x_.2)]) (x:=(n,l_))
theorem oJ:ape Tryz.prog 317 (jJ):=by
 have hG:=mG C1 (co lz (co nR C1));refine fR hG Tryz.f317 (λl o con h=>?_);obtain⟨⟨n,l_⟩,rfl,rfl,rfl⟩:=dP h;clear h;try dsimp only
 refine⟨_,_,_,rfl,λhp=>?_⟩;unfold cd at hp;refine⟨Y2 rfl,(λid st=>bif Nat.beq id 0 then some (LCV (ρ:=(Int×List bh)) (σ:=(List bh×Int×Int)) 1 [] [0] (λY W=>⟨[(0,.os 0),(1,.v (.int .i64 n)),(2,.fn 284 [] []),(6,.v (.int .i64 20)),(7,.v (.int .i64 W.2.1)),(8,.v (.int .i64 W.2.2))],[.row .u0 W.1]⟩) (bM n) (dc n) (Int.toNat n+1) (l_,0,20) (λ_=>.normal) (λU=>⟨[(0,.os 0),(1,.v (.int .i64 n)),(2,.fn 284 [] []),(6,.v (.int .i64 20)),(7,.v (.int .i64 U.1))],[.row .u0 U.2]⟩) st)else bif Nat.beq id 2 then some (LCV (ρ:=(List bh)) (σ:=(List bh×Int)) 1 [] [0] (λk_1 E=>⟨[(0,.os 0),(1,.v (.int .i64 n)),(2,.fn 284 [] []),(6,.v (.int .i64 E.2))],[.row .u0 E.1]⟩) (bZ n) (ct n) (Int.toNat n+1) ((aG (d8 (aj (bM n) (Int.toNat n+1) 0 (l_,0,20))).1 n (d8 (aj (bM n) (Int.toNat n+1) 0 (l_,0,20))).2),20) (λ_=>.normal) (λX=>⟨[],[.row .u0 X]⟩) st)else none),?_,?_⟩;unfold ae Tryz.f317;simp only[ak,true_and,and_true,and_assoc];refine⟨?_,?_⟩;refine eJ mixed aB hG kr (λ_=>rfl) λY W hq0=>⟨L0,ag _,?_⟩;unfold dc at hq0;exact cU (jl [0]);refine eJ mixed aB hG kr (λ_=>rfl) λk_1 E hq1=>⟨(λid st=>bif Nat.beq id 4 then some (LCV (ρ:=(Int×List bh)) (σ:=(List bh×Int×Int)) 1 [] [0] (λk_2 V=>⟨[(0,.os 0),(1,.v (.int .i64 n)),(2,.fn 284 [] []),(6,.v (.int .i64 E.2)),(7,.v (.int .i64 V.2.1)),(8,.v (.int .i64 V.2.2))],[.row .u0 V.1]⟩) (cL n E) (df n E) (Int.toNat n+1) (E.1,0,(i64.wrap (2*E.2))) (λ_=>.normal) (λO=>⟨[(0,.os 0),(1,.v (.int .i64 n)),(2,.fn 284 [] []),(6,.v (.int .i64 E.2)),(7,.v (.int .i64 O.1))],[.row .u0 O.2]⟩) st)else none),?_,?_⟩;simp only[ak,true_and,and_true];refine eJ mixed aB hG kr (λ_=>rfl) λk_2 V hq2=>⟨L0,ag _,?_⟩;unfold df at hq2;exact cU (jl [0]);unfold ct at hq1;exact cU (jl [0]);unfold ae Tryz.f317;try unfold cF
 exact cU (jl [0])
def bT (l_:List bh):List bh:=(cF (l_.length:Int) l_)
def bK (l_:List bh):Prop:=(l_.length<=aH->(cd (l_.length:Int) l_))
noncomputable def gc:List SV->List Ob->Option apd:=i7 (λx_:(List bh) =>[.os 0,.fn 284 [] []]) (λx_=>[.row .u0 x_]) (λx_=>ft (bK x_) (.tup []) [.row .u0 (bT x_)])
@[go_sem]def uP (l_:List bh):gc ([.os 0,.fn 284 [] []]) ([.row .u0 l_])=some (ft (bK l_) (.tup []) [.row .u0 (bT l_)]):=fF (A:=λx_:(List bh) =>[.os 0,.fn 284 [] []]) (H:=λx_=>[.row .u0 x_]) (K:=λx_=>ft (bK x_) (.tup []) [.row .u0 (bT x_)]) (x:=l_)
theorem kg:ape Tryz.prog 283 (gc):=by
 have hG:=mG C1 (co oJ C1);refine fR hG Tryz.f283 (λl o O h=>?_);obtain⟨U,rfl,rfl,rfl⟩:=dP h;clear h;try dsimp only
 refine⟨_,_,_,rfl,λE=>?_⟩;unfold bK at E;refine⟨Y2 rfl,L0,?_,?_⟩;unfold ae Tryz.f283;simp only[ak,and_self,true_and,and_true];unfold ae Tryz.f283;try unfold bT
 exact cU (jl [0])
def pl (l_:List bh):Unit:=()
noncomputable def iY:List SV->List Ob->Option apd:=i7 (λx_:(List bh) =>[.os 0]) (λx_=>[.row .u0 x_]) (λx_=>ft True (.fn 318 [] [.ptr 1 0]) [.row .u0 x_,.cells [.os 0]])
@[go_sem]def yl (l_:List bh):iY ([.os 0]) ([.row .u0 l_])=some (ft True (.fn 318 [] [.ptr 1 0]) [.row .u0 l_,.cells [.os 0]]):=fF (A:=λx_:(List bh) =>[.os 0]) (H:=λx_=>[.row .u0 x_]) (K:=λx_=>ft True (.fn 318 [] [.ptr 1 0]) [.row .u0 x_,.cells [.os 0]]) (x:=l_)
theorem nS:ape Tryz.prog 285 (iY):=by
 have hG:=mG C1 C1;refine fR hG Tryz.f285 (λl o E h=>?_);obtain⟨U,rfl,rfl,rfl⟩:=dP h;clear h;try dsimp only
 refine⟨_,_,_,rfl,λO=>?_⟩;refine⟨Y2 rfl,L0,?_,?_⟩;unfold ae Tryz.f285;simp only[ak,and_self,true_and,and_true];unfold ae Tryz.f285;try unfold pl
 exact cU (jl [0,1])
@[go_sem] def fG (l_:List bh)(known:Int)(Q1:Nat)(ly:List (Int×Bool)):Empty⊕(List (Int×Bool)):=(bif(((l_.getD Q1 default).kind==4)&&(decide ((l_.getD Q1 default).known<=known)))then .inr (dH .int .bool ly ((l_.getD Q1 default).of_) true)else .inr ly)
def eC (l_:List bh)(hour:Int)(known:Int):List bh:=(match aj (fG l_ known) l_.length 0 ([])with| .inl x=>x.elim| .inr ly=>(bT (br l_ known hour ly)))
def io (l_:List bh)(hour:Int)(known:Int):Prop:=(l_.length<=aH->(∀ ly,aj (fG l_ known) l_.length 0 ([])=.inr ly->((l_.length*88<=dI)/\((bE l_ known hour ly)/\(bK (br l_ known hour ly))))))
@[go_sem] def ym:List SV->Option Con:=(pR .u0 λl_=>(pI λhour=>(pI λknown=>(pE (.det (io l_ hour known) (.fn 318 [] [.ep [.rs .u0 (eC l_ hour known)] 0]))))))
theorem ar9(h:p:=by simp only[go_sem,oA,oB];all_goals exact cl):p:=h
theorem xg:zs Tryz.prog 230 ym:=by
 have hG:=mG (cn [.sl .u0] xf C1) (co lM (co kg (co nS C1)));refine fN hG Tryz.f230 [.o] (bD λE=>(az λhour=>(az λknown=>(am (λW=>?_)))));dsimp only[an]at W;unfold io at W;refine⟨Y2 rfl,(λid st=>bif Nat.beq id 0 then some (LCR (ρ:=Empty) (σ:=(List (Int×Bool))) 4 [] [0,1,2,3] (λU O=>⟨[(0,.rs .u0 E),(4,.ptr 0 0),(5,.ptr 1 0),(7,.ptr 3 0),(11,.rs .u0 E),(12,.v (.int .i64 (E.length:Int))),(13,.v (.int .i64 (U:Int)))],[.cells [.v (.int .i64 hour)],.cells [.v (.int .i64 known)],.mp .int .bool O none,.cells [.os 2]]⟩) (fG E known) pT E.length ([]) (E.length<=aH) ((·.elim)) ((·.elim)) st)else none),?_,?_⟩;unfold ae Tryz.f230;simp only[ak,true_and,and_true];refine bL mixed aB hG kr (λ_=>rfl) (E.length:Int) rfl fj (λhb0 U O V _ hw hc=>⟨L0,ag _,?_⟩) (λhb0 O hc=>?_);exact bB (jl [0,1,2,3]);exact bC (jl [0,1,2,3]);unfold ae Tryz.f230;try unfold eC
 exact ar9
theorem Fv(a0:JL l0)(h:JL l0->p:=by intro ja;(first|done|(repeat' (first|with_reducible refine And.intro ?_ ?_|((with_reducible show _≠_);first|assumption|omega|(simp_all [ci,d8];done) |grind) |with_reducible intro _)) <;>(first|done|with_reducible exact Empty.elim ‹Empty› |with_reducible assumption|rfl|omega|assumption|decide|exact fk ja|(refine Or.inr ?_;exact fkY ja) |(refine Or.inl ?_;exact fkY ja) |(refine Or.inl ⟨rfl,?_⟩;exact fkY ja) |(simp only[*,cond_true,cond_false,alZ,amd,go_sem];done) |(simp only[*,cond_true,cond_false,alZ,amd,go_sem];(repeat' (first|with_reducible refine And.intro ?_ ?_|((with_reducible show _≠_);first|assumption|omega|(simp_all [ci,d8];done) |grind) |with_reducible intro _)) <;>(first|done|assumption|rfl|omega|decide|exact fk ja|(refine Or.inr ?_;exact fkY ja) |(refine Or.inl ?_;exact fkY ja) |(refine Or.inl ⟨rfl,?_⟩;exact fkY ja) |(simp_all [ci,d8];done))) |(exfalso;rename_i h1 h2;rw[h1]at h2;cases h2) |(exfalso;rename_i h1 h2;simp only[h1,amd,alZ,aox,Bool.or_true,am8,am1,reduceCtorEq]at h2;done) |(exfalso;clear hy hG;simp_all;done) |(simp only[*,amr,forall_eq',true_implies,forall_const,reduceCtorEq,false_implies,and_true,alN,alL,alS,alQ,go_sem]at hq2;first|exact hq2.1|exact hq2.2.1|exact hq2|exact hq2.2|(simp only[hq2];done)) |(simp only[*,amr,forall_eq',true_implies,forall_const,reduceCtorEq,false_implies,and_true,alN,alL,alS,alQ,go_sem]at hq1;first|exact hq1.1|exact hq1.2.1|exact hq1|exact hq1.2|(simp only[hq1];done)) |(clear hy hG;simp_all only[ci,d8,amr,forall_eq',true_implies,forall_const,reduceCtorEq,false_implies,and_true,alN,alL,alS,alQ,go_sem];done) |(simp_all [okI,ci,d8];done) |(simp_all [ci,d8];(first|done|exact fk2 ja)) |exact fk2 ja))):p:=h a0
theorem oK(a0:JL l0)(h:JL l0->p:=by intro ja;simp only[go_sem,hc,hw];all_goals exact Fv ja):p:=h a0
theorem oL(a0:JL l0)(h:JL l0->p:=by intro ja;simp only[go_sem,hc];all_goals exact Fv ja):p:=h a0
@[go_sem] def CJ (x:bh):List SV:=[.agg (cellsOf .u0 x)]
@[go_sem] def cV (l_:List bh)(Q1:Nat)(ly:List bh):Empty⊕(List bh):=.inr (ly++[(l_.getD Q1 default)])
def dB (l_:List bh)(api:List (List SV))(Q1:Nat)(ly:List bh):Prop:=(api[ly.length]? =some (CJ (l_.getD Q1 default)))
def aW (l_:List bh):List bh:=(match aj (cV l_) l_.length 0 ([]:List bh)with| .inl x=>x.elim| .inr ly=>ly)
def c6 (l_:List bh)(api:List (List SV)):Prop:=letI q0:=cV l_;(l_.length<=aH->(okI q0 (dB l_ api) l_.length 0 ([]:List bh)/\(∀ ly,aj q0 l_.length 0 ([]:List bh)=.inr ly->(api.length=ly.length))))
theorem M0(a0:JL l0)(h:JL l0->p:=by intro ja;simp only[go_sem];all_goals exact Fv ja):p:=h a0
theorem mM (O:List bh)(E:List (List SV))(hp:c6 O E):Af Tryz.prog 318 (λy=>[y,.ep [.rs .u0 O] 0]) [] E:=by
 unfold c6 at hp;refine Bw mixed aB (fn:=Tryz.f318) (c:=ae Tryz.f318) kr kr kr kr rfl (n:=0) rfl (G:=λX=>Ag [] [] (C7 E X)) (λX hy=>?_) (λargs w=>by kernel_rfl);have hG:=mGY C1 C1 hy;refine⟨hG,Y2 rfl,(λid st=>bif Nat.beq id 0 then some (LCY (ρ:=Empty) (σ:=(List bh)) 1 [] [0] (λW U=>⟨[(0,.os 0),(5,.rs .u0 O),(6,.v (.int .i64 (O.length:Int))),(7,.v (.int .i64 (W:Int)))],[.ab (X.1 (U.length+1))]⟩) (cV O) (dB O E) O.length ([]:List bh) (O.length<=aH) ((·.elim)) ((·.elim)) ⟨[],[.ab (X.1 0)]⟩ st)else none),?_,?_⟩;unfold ae Tryz.f318;simp only[ak,true_and,and_true];refine sL mixed aB hG kr (λ_=>rfl) (O.length:Int) rfl fj (λhb0 W U Y V hw hc=>⟨L0,ag _,?_⟩) (λhb0 U hc=>?_);unfold dB at V;try simp only[hw,alI]at V
 exact oK (jl [0]);exact oL (jl [0]);unfold ae Tryz.f318;exact M0 (jl [0])
@[go_sem]def akk {f:FuncId}:A9 (.fn f [] [])=some [.fn f [] []]:=(rfl)
theorem xR {κ υ:Type}[DecidableEq κ](l:List (κ×υ))(x z:κ)(y:υ):iv (tA l x y) z=if z=x then some y else iv l z:=by
 induction l with
 |nil=>simp[tA,iv]
 |cons a r O=>
  obtain⟨a,b⟩:=a;unfold tA;by_cases h:x=a
  subst h;simp only[if_pos];unfold iv;by_cases E:z=x <;>simp[E]
  rw[if_neg h];unfold iv;by_cases E:z=a
  subst E;rw[if_pos rfl,if_neg (λe=>h e.symm),if_pos rfl];rw[if_neg E,O,if_neg E]
def fT:List (Int×(Option Nat)):=(dH .int .fnc (dH .int .fnc (dH .int .fnc ([]) 1 (some 314)) 2 (some 315)) 3 (some 316))
@[go_sem] def BI:List SV->Option Con:=(pE (.det True (.nm .int .fnc (fT))))
theorem As:zs Tryz.prog 279 BI:=by
 have hG:=mG C1 C1;refine fW hG Tryz.f279 [] (am (λE=>?_));dsimp only[an]at E;refine⟨Y2 rfl,L0,ag _,?_⟩;unfold ae Tryz.f279;try unfold fT
 exact zq2
theorem uQ (k:Int):aL .int .fnc fT k=bif k==1 then some 314 else bif k==2 then some 315 else bif k==3 then some 316 else none:=by
 by_cases h1:k=1
 subst h1;rfl;by_cases h2:k=2
 subst h2;rfl;by_cases E:k=3
 subst E;rfl;have V:(k==1)=false:=by simpa using h1
 have U:(k==2)=false:=by simpa using h2
 have O:(k==3)=false:=by simpa using E
 rw[V,U,O];simp only[fT,aL,dH,xR,if_neg h1,if_neg h2,if_neg E];rfl
def eO (x:bh)(n:Int)(m_:List (pq×Int)):List (pq×Int):=(dH .dn .int m_ ({ right:=x.right,dd:=x.to}:pq) (i64.wrap ((aL .dn .int m_ ({ right:=x.right,dd:=x.to}:pq))+n)))
noncomputable def qO:List SV->List Ob->Option apd:=i7 (λx_:bh×Int×(List (pq×Int)) =>[.os 0,.agg (cellsOf .u0 x_.1),.v (.int .i64 x_.2.1)]) (λx_=>[.mp .dn .int x_.2.2 none]) (λx_=>ft True (.tup []) [.mp .dn .int (eO x_.1 x_.2.1 x_.2.2) none])
variable {p0_:Option (Nat×Option Tag.dn.T)}
@[go_sem] theorem IW(x:bh)(n:Int)(m_:List (pq×Int))(aq6:p0_=none):qO ([.os 0,.agg [.v (.int .i64 x.no),.v (.int .i64 x.kind),.v (.int .i64 x.right),.v (.int .i64 x.since),.v (.int .i64 x.to),.rs .part x.parts,.v (.int .i64 x.of_),.v (.int .i64 x.at_),.v (.int .i64 x.known)],.v (.int .i64 n)]) ([.mp .dn .int m_ p0_])=some (ft True (.tup []) [.mp .dn .int (eO x n m_) none]):=by
 subst aq6;exact fF (A:=λx_:bh×Int×(List (pq×Int)) =>[.os 0,.agg (cellsOf .u0 x_.1),.v (.int .i64 x_.2.1)]) (H:=λx_=>[.mp .dn .int x_.2.2 none]) (K:=λx_=>ft True (.tup []) [.mp .dn .int (eO x_.1 x_.2.1 x_.2.2) none]) (x:=(x,n,m_))
theorem wq:ape Tryz.prog 314 (qO):=by
 have hG:=mG C1 C1;refine fR hG Tryz.f314 (λl o E h=>?_);obtain⟨⟨x,n,O⟩,rfl,rfl,rfl⟩:=dP h;clear h;try dsimp only
 refine⟨_,_,_,rfl,λU=>?_⟩;refine⟨Y2 rfl,L0,?_,?_⟩;unfold ae Tryz.f314;simp only[ak,and_self,true_and,and_true];unfold ae Tryz.f314;try unfold eO
 exact cU (jl [0])
@[go_sem] def b7 (x:bh)(n:Int)(Q1:Nat)(ly:List (pq×Int)×Int):Empty⊕(List (pq×Int)×Int):=letI q1:=x.parts.getD Q1 default;letI q0:=({ right:=x.right,dd:=q1.dd}:pq);letI q2:=eM (q1.share) n;.inr ((dH .dn .int ly.1 q0 (i64.wrap ((aL .dn .int ly.1 q0)+q2.1))),(i64.wrap (ly.2 - q2.1)))
@[go_sem] def ix (x:bh)(ly:List (pq×Int)×Int)(k_1:Nat)(s_1:List (pq×Int)):Empty⊕(List (pq×Int)):=letI q0:=({ right:=x.right,dd:=(((x.parts.take (Int.toNat ly.2)).drop 0).getD k_1 default).dd}:pq);.inr (dH .dn .int s_1 q0 (i64.wrap ((aL .dn .int s_1 q0)+1)))
def dq (x:bh)(n:Int)(m_:List (pq×Int)):List (pq×Int):=(match aj (b7 x n) x.parts.length 0 (m_,n)with| .inl x=>x.elim| .inr ly=>(match aj (ix x ly) (((x.parts.take (Int.toNat ly.2)).drop 0).length) 0 ly.1 with| .inl x=>x.elim| .inr s_1=>s_1))
def fm (x:bh)(n:Int)(m_:List (pq×Int)):Prop:=(x.parts.length<=aH->(∀ ly,aj (b7 x n) x.parts.length 0 (m_,n)=.inr ly->(0<=0/\0<=ly.2/\ly.2<=(x.parts.length:Int))))
noncomputable def pn:List SV->List Ob->Option apd:=i7 (λx_:bh×Int×(List (pq×Int)) =>[.os 0,.agg (cellsOf .u0 x_.1),.v (.int .i64 x_.2.1)]) (λx_=>[.mp .dn .int x_.2.2 none]) (λx_=>ft (fm x_.1 x_.2.1 x_.2.2) (.tup []) [.mp .dn .int (dq x_.1 x_.2.1 x_.2.2) none])
@[go_sem] theorem HB(x:bh)(n:Int)(m_:List (pq×Int))(aq6:p0_=none):pn ([.os 0,.agg [.v (.int .i64 x.no),.v (.int .i64 x.kind),.v (.int .i64 x.right),.v (.int .i64 x.since),.v (.int .i64 x.to),.rs .part x.parts,.v (.int .i64 x.of_),.v (.int .i64 x.at_),.v (.int .i64 x.known)],.v (.int .i64 n)]) ([.mp .dn .int m_ p0_])=some (ft (fm x n m_) (.tup []) [.mp .dn .int (dq x n m_) none]):=by
 subst aq6;exact fF (A:=λx_:bh×Int×(List (pq×Int)) =>[.os 0,.agg (cellsOf .u0 x_.1),.v (.int .i64 x_.2.1)]) (H:=λx_=>[.mp .dn .int x_.2.2 none]) (K:=λx_=>ft (fm x_.1 x_.2.1 x_.2.2) (.tup []) [.mp .dn .int (dq x_.1 x_.2.1 x_.2.2) none]) (x:=(x,n,m_))
theorem vB:ape Tryz.prog 315 (pn):=by
 have hG:=mG (cp xd C1) C1;refine fR hG Tryz.f315 (λl o con h=>?_);obtain⟨⟨x,n,O⟩,rfl,rfl,rfl⟩:=dP h;clear h;try dsimp only
 refine⟨_,_,_,rfl,λhp=>?_⟩;unfold fm at hp;refine⟨Y2 rfl,(λid st=>bif Nat.beq id 0 then some (LCR (ρ:=Empty) (σ:=(List (pq×Int)×Int)) 2 [] [0,1] (λV E=>⟨[(0,.os 0),(2,.v (.int .i64 n)),(4,.ptr 1 0),(6,.v (.int .i64 E.2)),(16,.rs .part x.parts),(17,.v (.int .i64 (x.parts.length:Int))),(18,.v (.int .i64 (V:Int)))],[.mp .dn .int E.1 none,.cells (cellsOf .u0 x)]⟩) (b7 x n) pT x.parts.length (O,n) (x.parts.length<=aH) ((·.elim)) ((·.elim)) st)else bif Nat.beq id 2 then some (LCR (ρ:=Empty) (σ:=(List (pq×Int))) 2 [] [0,1] (λW U=>⟨[(0,.os 0),(4,.ptr 1 0),(48,.rs .part ((x.parts.take (Int.toNat (ci (aj (b7 x n) x.parts.length 0 (O,n))).2)).drop 0)),(49,.v (.int .i64 (((x.parts.take (Int.toNat (ci (aj (b7 x n) x.parts.length 0 (O,n))).2)).drop 0).length:Int))),(50,.v (.int .i64 (W:Int)))],[.mp .dn .int U none,.cells (cellsOf .u0 x)]⟩) (ix x (ci (aj (b7 x n) x.parts.length 0 (O,n)))) pT (((x.parts.take (Int.toNat (ci (aj (b7 x n) x.parts.length 0 (O,n))).2)).drop 0).length) ((ci (aj (b7 x n) x.parts.length 0 (O,n))).1) (((x.parts.take (Int.toNat (ci (aj (b7 x n) x.parts.length 0 (O,n))).2)).drop 0).length<=aH) ((·.elim)) ((·.elim)) st)else none),?_,?_⟩;unfold ae Tryz.f315;simp only[ak,true_and,and_true,and_assoc];refine⟨?_,?_⟩;refine bL mixed aB hG kr (λ_=>rfl) (x.parts.length:Int) rfl fj (λhb0 V E X _ hw hc=>⟨L0,ag _,?_⟩) (λhb0 E hc=>?_);exact bB (jl [0,1]);exact bC (jl [0,1]);refine bL mixed aB hG kr (λ_=>rfl) (((x.parts.take (Int.toNat (ci (aj (b7 x n) x.parts.length 0 (O,n))).2)).drop 0).length:Int) rfl fj (λhb1 W U Y _ hw hc=>⟨L0,ag _,?_⟩) (λhb1 U hc=>?_);exact bB (jl [0,1]);exact bC (jl [0,1]);unfold ae Tryz.f315;try unfold dq
 exact cU (jl [0])
def yn (x:bh)(n:Int)(m_:List (pq×Int)):Unit:=()
noncomputable def pr:List SV->List Ob->Option apd:=i7 (λx_:bh×Int×(List (pq×Int)) =>[.os 0,.agg (cellsOf .u0 x_.1),.v (.int .i64 x_.2.1)]) (λx_=>[.mp .dn .int x_.2.2 none]) (λx_=>ft True (.tup []) [.mp .dn .int x_.2.2 none])
@[go_sem] theorem HC(x:bh)(n:Int)(m_:List (pq×Int))(aq6:p0_=none):pr ([.os 0,.agg [.v (.int .i64 x.no),.v (.int .i64 x.kind),.v (.int .i64 x.right),.v (.int .i64 x.since),.v (.int .i64 x.to),.rs .part x.parts,.v (.int .i64 x.of_),.v (.int .i64 x.at_),.v (.int .i64 x.known)],.v (.int .i64 n)]) ([.mp .dn .int m_ p0_])=some (ft True (.tup []) [.mp .dn .int m_ none]):=by
 subst aq6;exact fF (A:=λx_:bh×Int×(List (pq×Int)) =>[.os 0,.agg (cellsOf .u0 x_.1),.v (.int .i64 x_.2.1)]) (H:=λx_=>[.mp .dn .int x_.2.2 none]) (K:=λx_=>ft True (.tup []) [.mp .dn .int x_.2.2 none]) (x:=(x,n,m_))
theorem vC:ape Tryz.prog 316 (pr):=by
 have hG:=mG C1 C1;refine fR hG Tryz.f316 (λl o E h=>?_);obtain⟨⟨x,n,O⟩,rfl,rfl,rfl⟩:=dP h;clear h;try dsimp only
 refine⟨_,_,_,rfl,λU=>?_⟩;refine⟨Y2 rfl,L0,?_,?_⟩;unfold ae Tryz.f316;simp only[ak,and_self,true_and,and_true];unfold ae Tryz.f316;try unfold yn
 exact cU (jl [0])
end Go.Sx
end
section
namespace Go.Proofs
open Go.Shelf Go.Sx
def Tryz.aq1:Go.Shelf.Ren:=⟨λ|5=>72|8=>133|7=>132|19=>199|20=>200|10=>190|11=>191|12=>192|13=>193|14=>194|15=>195|16=>196|17=>197|18=>198|30=>259|31=>260|32=>261|33=>262|34=>263|35=>137|40=>306|n=>n,λ|23=>35|25=>3|3=>3|32=>229|22=>35|0=>0|44=>294|46=>296|4=>4|36=>288|35=>287|41=>267|5=>5|9=>9|53=>342|57=>60|63=>375|64=>376|n=>n,λ|n=>n⟩
theorem Tryz.arv:Go.Proofs.SlLaysM.n5 Tryz.prog Tryz.aq1:=⟨kr,⟨Tryz.f72.name,by decide,kr⟩,⟨Tryz.f132.name,by decide,kr⟩,kr,⟨Tryz.f190.name,by decide,kr⟩,⟨Tryz.f191.name,by decide,kr⟩,⟨Tryz.f192.name,by decide,kr⟩,⟨Tryz.f193.name,by decide,kr⟩,⟨Tryz.f194.name,by decide,kr⟩,⟨Tryz.f195.name,by decide,kr⟩,⟨Tryz.f196.name,by decide,kr⟩,⟨Tryz.f197.name,by decide,kr⟩,⟨Tryz.f198.name,by decide,kr⟩,kr,kr,⟨Tryz.f259.name,by decide,kr⟩,kr,kr,⟨Tryz.f262.name,by decide,kr⟩,⟨Tryz.f263.name,by decide,kr⟩,⟨Tryz.f137.name,by decide,kr⟩,⟨Tryz.f306.name,by decide,kr⟩,kr,λ_=>kr,λ_=>kr,λ_=>kr,kr,λ_=>kr,λ_=>kr,λ_=>kr,kr,λ_=>kr,λ_=>kr,λ_=>kr,kr,λ_=>kr,λ_=>kr,λ_=>kr,kr,λ_=>kr,λ_=>kr,λ_=>kr,kr,λ_=>kr,λ_=>kr,λ_=>kr,kr,λ_=>kr,λ_=>kr,λ_=>kr,kr,λ_=>kr,λ_=>kr,λ_=>kr,kr,λ_=>kr,λ_=>kr,λ_=>kr,kr,λ_=>kr,λ_=>kr,λ_=>kr,kr,λ_=>kr,λ_=>kr,λ_=>kr,kr,λ_=>kr,λ_=>kr,λ_=>kr,kr,λ_=>kr,λ_=>kr,λ_=>kr,kr,λ_=>kr,λ_=>kr,λ_=>kr,kr,λ_=>kr,λ_=>kr,λ_=>kr,kr,λ_=>kr,λ_=>kr,λ_=>kr,kr,λ_=>kr,λ_=>kr,λ_=>kr,kr,λ_=>kr,λ_=>kr,λ_=>kr⟩
end Go.Proofs
end
section
namespace Go.Sx
open Go.Proofs
def Q8:ape Tryz.prog 72 Pp:=Pq Tryz.arv
@[go_sem] def cS (d:ah)(Q1:Nat)(ly:List (pq×Int)):Empty⊕(List (pq×Int)):=(bif((d.ai.getD Q1 default).kind==1)then .inr (dH .dn .int ly ({ right:=(Q1:Int),dd:=(d.ai.getD Q1 default).dd}:pq) ((d.ai.getD Q1 default).bo))else .inr ly)
@[go_sem] def cT (ds:List bh)(z_1:bh)(s_1:List Int×List (pq×Int)):Empty⊕(List Int×List (pq×Int)):=letI q0:=({ right:=z_1.right,dd:=z_1.since}:pq);letI q1:=aL .dn .int s_1.2 q0;letI q2:=su .dn .int s_1.2 q0;(bif(q1==0)then .inr ((s_1.1++([z_1.no])),s_1.2)else(bif(z_1.kind==1)then .inr (s_1.1,(eO z_1 q1 q2))else(bif(z_1.kind==2)then .inr (s_1.1,(dq z_1 q1 q2))else(bif(z_1.kind==3)then .inr (s_1.1,q2)else .inr default))))
def eP (ds:List bh)(z_1:bh)(s_1:List Int×List (pq×Int)):Prop:=letI q1:=({ right:=z_1.right,dd:=z_1.since}:pq);letI q0:=aL .dn .int s_1.2 q1;(((q0==0)=true->((s_1.1++([z_1.no])).length*8<=dI))/\((q0==0)=false->((z_1.kind==1)=false->(((z_1.kind==2)=true->(fm z_1 q0 (su .dn .int s_1.2 q1)))/\((z_1.kind==2)=false->((z_1.kind==3)=false->False))))))
def eV (d:ah)(ds:List bh):List (pq×Int)×List Int:=(match aj (cS d) d.ai.length 0 ([])with| .inl x=>x.elim| .inr ly=>(match di (cT ds) (aW ds) ([],ly)with| .inl x=>x.elim| .inr s_1=>(s_1.2,(wj s_1.1))))
def k_ (d:ah)(ds:List bh):Prop:=letI q0:=aW ds;(d.ai.length<=aH->(∀ ly,aj (cS d) d.ai.length 0 ([])=.inr ly->((c6 ds (q0.map CJ))/\okL (cT ds) (eP ds) q0 ([],ly))))
@[go_sem] noncomputable def At:List SV->Option Con:=(pD .al λd=>(pFn 318 (pXR .u0 λds=>(pE ((pE (.det (k_ d ds) (.tup [.nm .dn .int ((eV d ds).1),.nw .int ((eV d ds).2)]))))))))
variable {p:Prop}
theorem asb(h:p:=by simp only[go_sem,e1_0,e1_1,e1_2,e1_3]):p:=h
variable {l0 l1:List Nat}
theorem asy(a0:JL l0)(a1:JL l1)(h:JL l0->JL l1->p:=by intro ja jb;simp only[go_sem,uQ,cT,psT,CJ,al7,alR,hk0];all_goals exact gj ja jb):p:=h a0 a1
theorem asw(a0:JL l0)(a1:JL l1)(h:JL l0->JL l1->p:=by intro ja jb;simp only[go_sem,uQ,cT,psT,CJ,al7,alR,hk0,hk1];all_goals exact gj ja jb):p:=h a0 a1
theorem ahP(a0:JL l0)(a1:JL l1)(h:JL l0->JL l1->p:=by intro ja jb;simp only[go_sem,uQ,cT,psT,CJ,al7,alR,hk0,hk1,hk2];all_goals exact gj ja jb):p:=h a0 a1
theorem ahQ(a0:JL l0)(a1:JL l1)(h:JL l0->JL l1->p:=by intro ja jb;simp only[go_sem,uQ];all_goals exact gj ja jb):p:=h a0 a1
theorem asl(h:p:=by simp only[go_sem,uQ];all_goals exact cl):p:=h
theorem zm:zs Tryz.prog 229 At:=by
 have hG:=mG (cp As C1) (co Q8 (co wq (co vB (co vC C1))));refine fW hG Tryz.f229 [(.cell 5 0,.int)] (ax λd=>(mr (vr λds=>(am ((am (λX=>?_)))))));dsimp only[an]at X;unfold k_ at X;refine⟨Y2 rfl,(λid st=>bif Nat.beq id 0 then some (LCR (ρ:=Empty) (σ:=(List (pq×Int))) 4 [] [0,1,2,3] (λV O=>⟨[(1,.fn 318 [] [.ep [.rs .u0 ds] 0]),(4,.ptr 1 0),(5,.ptr 2 0),(14,.rs .right d.ai),(15,.v (.int .i64 (d.ai.length:Int))),(16,.v (.int .i64 (V:Int)))],[.dead,.cells [.os 3],.cells [.v (.slice none 0 0)],.mp .dn .int O none]⟩) (cS d) pT d.ai.length ([]) (d.ai.length<=aH) ((·.elim)) ((·.elim)) st)else bif Nat.beq id 2 then some (LC (ρ:=Empty) (σ:=List Int×List (pq×Int)) (lk 4 st.t=.ptr 1 0/\lk 5 st.t=.ptr 2 0/\lk 8 st.t=.ptr 5 0/\lk 33 st.t=.fn 318 [] [.ep [.rs .u0 ds] 0]/\st.h=[.dead,.cells [.os 3],.cells [.v (.slice none 0 0)],.mp .dn .int (ci (aj (cS d) d.ai.length 0 ([]))) none,.mp .int .fnc fT none,.cells [.os 4]]/\c6 ds ((aW ds).map CJ)/\okL (cT ds) (eP ds) (aW ds) ([],(ci (aj (cS d) d.ai.length 0 ([]))))) (di (cT ds) (aW ds) ([],(ci (aj (cS d) d.ai.length 0 ([]))))) (λx=>x.elim) (λx=>x.elim) (λE=>⟨[(4,.ptr 1 0),(5,.ptr 2 0),(8,.ptr 5 0)],[.dead,.cells [.os 3],.cells [.os 7],.mp .dn .int E.2 none,.mp .int .fnc fT none,.cells [.os 4],.dead,.row .int E.1]⟩))else none),?_,?_⟩
 ·unfold ae Tryz.f229;simp only[ak,true_and,and_true];refine⟨?_,?_⟩;refine bL mixed aB hG kr (λ_=>rfl) (d.ai.length:Int) rfl fj (λhb0 V O Y _ hw hc=>⟨L0,ag _,?_⟩) (λhb0 O hc=>?_);exact bB (jl [0,1,2,3]);exact bC (jl [0,1,2,3])
  ·refine zi mixed aB hG (by decide) (by decide) kr kr λst lc hC X=>?_;simp only[go_sem,Nat.reduceBEq,alK]at hC;subst hC;obtain⟨t,h⟩:=st;dsimp only[LC]at X;obtain⟨e1_0,e1_1,e1_2,e1_3,rfl,hb1,W⟩:=X;refine⟨⟨t,[.dead,.cells [.os 3],.cells [.os 6],.mp .dn .int (ci (aj (cS d) d.ai.length 0 ([]))) none,.mp .int .fnc fT none,.cells [.os 4],.row .int ([])]⟩,apT.cell (h:=[.dead,.cells [.os 3],.cells [.v (.slice none 0 0)],.mp .dn .int (ci (aj (cS d) d.ai.length 0 ([]))) none,.mp .int .fnc fT none,.cells [.os 4]]) (i:=2) (j:=0) (.row .int ([])) (apT.refl _) rfl rfl (.inl ⟨_,rfl⟩),318,[.ep [.rs .u0 ds] 0],bh,_,_,(aW ds),CJ,(cT ds),(eP ds),_,([],(ci (aj (cS d) d.ai.length 0 ([])))),_,_,_,[(4,.ptr 1 0),(5,.ptr 2 0),(8,.ptr 5 0)],(λE=>[.dead,.cells [.os 3],.cells [.os 7],.mp .dn .int E.2 none,.mp .int .fnc fT none,.cells [.os 4],.dead,.row .int E.1]),(λx=>x.elim),[0,1,2,3,4,5,6,6],?_,rfl,W,Y2 rfl,?_,mM ds _ hb1,λU E hq1=>⟨rfl,L0,λl=>?_,λl=>?_,?_⟩,λE=>?_,λy=>?_⟩;exact asb
   ·simp only[go_sem,sI,jR,al5,amR,alR,al3,amL,e1_0,e1_1,e1_2,e1_3];all_goals (first|done|decide|(repeat' (first|refine And.intro ?_ ?_|rfl|decide)))
   simp only[ak,and_self,true_and,and_true];simp only[ak,and_self,true_and,and_true];unfold eP at hq1;rcases anN (U.kind==1)with hk0|hk0;exact asy (jl [0,1,2,3,4,5,6,11]) (jl [0,1,2,3,4,5,6,7]);rcases anN (U.kind==2)with hk1|hk1;exact asw (jl [0,1,2,3,4,5,6,11]) (jl [0,1,2,3,4,5,6,7]);rcases anN (U.kind==3)with hk2|hk2;exact ahP (jl [0,1,2,3,4,5,6,11]) (jl [0,1,2,3,4,5,6,7]);exact ahP (jl [0,1,2,3,4,5,6,11]) (jl [0,1,2,3,4,5,6,7]);exact ahQ (jl [0,1,2,3,4,5,6,11]) (jl [0,1,2,3,4,5,6,7]);exact ahQ (jl [0,1,2,3,4,5,6,11]) (jl [0,1,2,3,4,5,6,7])
 unfold ae Tryz.f229;try unfold eV
 exact asl
end Go.Sx
end
section
namespace Go.Sx
@[go_sem ↓]def afC (x:Reach):mkE .reach [.v (.string x.name),.v (.int .i64 x.up),.v (.int .i64 x.delay),.v (.int .i64 x.cap),.v (.int .i64 x.apH),.v (.int .i64 x.apl),.v (.int .i64 x.apP.lo),.v (.int .i64 x.apP.hi),.v (.int .i64 x.apt.1.n),.v (.int .i64 x.apt.1.d),.v (.int .i64 x.apt.2.n),.v (.int .i64 x.apt.2.d)]=x:=(rfl)
@[go_sem ↓]def ahR (x:aqg):mkE .apa [.v (.int .i64 x.cap),.v (.int .i64 x.start)]=x:=(rfl)
@[go_sem ↓]def ahS (x:aqa):mkE .dd [.v (.string x.name),.v (.int .i64 x.reach),.v (.int .i64 x.aqE),.v (.int .i64 x.apL)]=x:=(rfl)
@[go_sem ↓]def afD (x:apu):mkE .right [.v (.string x.name),.v (.int .i64 x.kind),.v (.int .i64 x.dd),.v (.int .i64 x.reach),.v (.int .i64 x.ao8),.v (.int .i64 x.bo),.v (.int .i64 x.since),.v (.int .i64 x.to),.v (.int .i64 x.every),.v (.int .i64 x.length)]=x:=(rfl)
@[go_sem ↓]def ahT (x:bh):mkE .u0 [.v (.int .i64 x.no),.v (.int .i64 x.kind),.v (.int .i64 x.right),.v (.int .i64 x.since),.v (.int .i64 x.to),.rs .part x.parts,.v (.int .i64 x.of_),.v (.int .i64 x.at_),.v (.int .i64 x.known)]=x:=(rfl)
@[go_sem ↓]def ahU (x:Part):mkE .part [.v (.int .i64 x.dd),.v (.int .i64 x.share.n),.v (.int .i64 x.share.d)]=x:=(rfl)
@[go_sem ↓]def aay (x:ao0):mkE .holding [.v (.int .i64 x.right),.v (.int .i64 x.dd),.v (.int .i64 x.bo),.v (.int .i64 x.ao8)]=x:=(rfl)
@[go_sem ↓]def afE (x:B1):mkE .ratio [.v (.int .i64 x.n),.v (.int .i64 x.d)]=x:=(rfl)
@[go_sem ↓]def Q9 (x:pq):mkE .dn [.v (.int .i64 x.right),.v (.int .i64 x.dd)]=x:=(rfl)
@[go_sem ↓]def afF (x:Claim):mkE .x6 [.v (.int .i64 x.right),.v (.int .i64 x.dd),.v (.int .i64 x.hour),.v (.int .i64 x.bo),.v (.int .i64 x.ao8)]=x:=(rfl)
@[go_sem ↓]def XI (x:X1):mkE .G2 [.v (.int .i64 x.dd),.v (.int .i64 x.reach)]=x:=(rfl)
@[go_sem ↓]def TF (x:M1):mkE .S2 [.v (.int .i64 x.x6.right),.v (.int .i64 x.x6.dd),.v (.int .i64 x.x6.hour),.v (.int .i64 x.x6.bo),.v (.int .i64 x.x6.ao8),.v (.int .i64 x.reach)]=x:=(rfl)
@[go_sem ↓]def afG (x:Order):mkE .order [.v (.int .i64 x.hour),.v (.int .i64 x.index),.v (.int .i64 x.bo),.v (.bool x.W1)]=x:=(rfl)
@[go_sem ↓]def afH (x:T1):mkE .fault [.v (.int .i64 x.kind),.v (.int .i64 x.hour),.v (.int .i64 x.index),.v (.int .i64 x.bo),.v (.int .i64 x.limit)]=x:=(rfl)
@[go_sem ↓]def ac4 (x:S1):mkE .aoY [.v (.int .i64 x.reach),.v (.int .i64 x.hour),.v (.int .i64 x.bo),.v (.int .i64 x.wanted)]=x:=(rfl)
@[go_sem ↓]def aaz (x:apf):mkE .refusal [.rs .int x.ai,.v (.int .i64 x.kind),.v (.int .i64 x.reach),.v (.int .i64 x.hour),.rs .aoY x.apo]=x:=(rfl)
@[go_sem ↓]def TG (x:x4):mkE .x5 [.v (.string x.d.name),.v (.int .i64 x.d.hours),.v (.int .i64 x.d.apa.cap),.v (.int .i64 x.d.apa.start),.rs .reach x.d.reaches,.rs .dd x.d.l5,.rs .apL x.d.apg,.rs .right x.d.ai,.rs .apX x.d.apb,.rs .ap2 x.d.apQ,.rs .x6 x.c]=x:=(rfl)
@[go_sem ↓]def Y4 (x:ah):mkE .al [.v (.string x.name),.v (.int .i64 x.hours),.v (.int .i64 x.apa.cap),.v (.int .i64 x.apa.start),.rs .reach x.reaches,.rs .dd x.l5,.rs .apL x.apg,.rs .right x.ai,.rs .apX x.apb,.rs .ap2 x.apQ]=x:=(rfl)
end Go.Sx
end
section
namespace Go.Sx
open Go.Proofs
open IntKind (i64)
variable {l0 l1:List Nat}{p:Prop}
theorem mX(a0:JL l0)(a1:JL l1)(h:JL l0->JL l1->p:=by intro ja jb;simp only[go_sem,hc,hw];all_goals exact gj ja jb):p:=h a0 a1
theorem mY(a0:JL l0)(a1:JL l1)(h:JL l0->JL l1->p:=by intro ja jb;simp only[go_sem,hc];all_goals exact gj ja jb):p:=h a0 a1
@[go_sem] def jT (s_:List Int)(v:Int)(Q1:Nat)(ly:Unit):Int⊕Unit:=(bif(v==(s_.getD Q1 0))then .inl (Q1:Int)else .inr ())
def jn (s_:List Int)(v:Int):Int:=(match aj (jT s_ v) s_.length 0 ()with| .inl gl=>gl| .inr ly=>(-1))
@[go_sem] def vD:List SV->Option Con:=(pR .int λs_=>(pI λv=>(pE (.det True (.v (.int .i64 (jn s_ v)))))))
theorem uR:zs Tryz.prog 91 vD:=by
 have hG:=mG C1 C1;refine fN hG Tryz.f91 [.o] (bD λO=>(az λv=>(am (λX=>?_))));dsimp only[an]at X;refine⟨Y2 rfl,(λid st=>bif Nat.beq id 0 then some (LCR (ρ:=Int) (σ:=Unit) 0 [] [] (λU V=>⟨[(0,.rs .int O),(1,.v (.int .i64 v)),(7,.v (.int .i64 (O.length:Int))),(8,.v (.int .i64 (U:Int)))],[]⟩) (jT O v) pT O.length () (O.length<=aH) (λ_=>.ret) (λE=>⟨[(4,.v (.int .i64 E))],[]⟩) st)else none),?_,?_⟩;unfold ae Tryz.f91;simp only[ak,true_and,and_true];refine bL mixed aB hG kr (λ_=>rfl) (O.length:Int) rfl fj (λhb0 U V W _ hw hc=>⟨L0,ag _,?_⟩) (λhb0 V hc=>?_);exact bB (jl []);exact bC (jl []);unfold ae Tryz.f91;try unfold jn
 exact zq2
def dQ (s_:List Int)(v:Int):Bool:=(decide ((jn s_ v)>=0))
@[go_sem] def tC:List SV->Option Con:=(pR .int λs_=>(pI λv=>(pE (.det True (.v (.bool (dQ s_ v)))))))
theorem lN:zs Tryz.prog 44 tC:=by
 have hG:=mG (cn [.sl .int,.o] uR C1) C1;refine fN hG Tryz.f44 [.o] (bD λO=>(az λv=>(am (λE=>?_))));dsimp only[an]at E;refine⟨Y2 rfl,L0,ag _,?_⟩;unfold ae Tryz.f44;try unfold dQ
 exact zq2
def du (n:Int)(lo:Int)(hi:Int):Bool:=((decide (n>=lo))&&(decide (n<=hi)))
@[go_sem] def Di:List SV->Option Con:=(pI λn=>(pI λlo=>(pI λhi=>(pE (.det True (.v (.bool (du n lo hi))))))))
theorem pH:zs Tryz.prog 46 Di:=by
 have hG:=mG C1 C1;refine fN hG Tryz.f46 [.o] (az λn=>(az λlo=>(az λhi=>(am (λE=>?_)))));dsimp only[an]at E;refine⟨Y2 rfl,L0,ag _,?_⟩;unfold ae Tryz.f46;try unfold du
 exact zq2
@[go_sem] def eZ (s_:x4)(Q1:Nat)(ly:List Int):Empty⊕(List Int):=.inr (ly++([(s_.c.getD Q1 default).right]))
def gE (s_:x4)(Q1:Nat)(ly:List Int):Prop:=((ly++([(s_.c.getD Q1 default).right])).length*8<=dI)
def aq (s_:x4):List Int:=(match aj (eZ s_) s_.c.length 0 ([])with| .inl x=>x.elim| .inr ly=>(cpI (wj ly)))
def fo (s_:x4):Prop:=(s_.c.length<=aH->okI (eZ s_) (gE s_) s_.c.length 0 ([]))
@[go_sem] def wr:List SV->Option Con:=(pD .x5 λs_=>(pE (.det (fo s_) (.rs .int (aq s_)))))
theorem kh:zs Tryz.prog 31 wr:=by
 have hG:=mG C1 (co Q8 (co ac2 C1));refine fN hG Tryz.f31 [.sl .int] (ax λO=>(am (λX=>?_)));dsimp only[an]at X;unfold fo at X;refine⟨Y2 rfl,(λid st=>bif Nat.beq id 0 then some (LCR (ρ:=Empty) (σ:=(List Int)) 1 [.slot 2 (.row .int ([]))] [0,1] (λV E=>⟨[(2,.os 1),(6,.rs .x6 O.c),(7,.v (.int .i64 (O.c.length:Int))),(8,.v (.int .i64 (V:Int)))],[.dead,.row .int E]⟩) (eZ O) (gE O) O.c.length ([]) (O.c.length<=aH) ((·.elim)) ((·.elim)) st)else none),?_,?_⟩;unfold ae Tryz.f31;simp only[ak,true_and,and_true];refine bL mixed aB hG kr (λ_=>rfl) (O.c.length:Int) rfl fj (λhb0 V E W U hw hc=>⟨L0,ag _,?_⟩) (λhb0 E hc=>?_);unfold gE at U;try simp only[hw,alI]at U
 exact mX (jl [0,4]) (jl [0,1]);exact mY (jl [0,4]) (jl [0,1]);unfold ae Tryz.f31;try unfold aq
 exact zq2
@[go_sem] def xj:List SV->Option Con:=pR .x6 λl=>pE (.det (l.length*40<=dI) (.nw .x6 l))
theorem wu:zs Tryz.prog 75 xj:=by
 refine fW (mG C1 C1) Tryz.f75 [(.tmp 2,.x6)] (bD λl=>am λE=>?_);dsimp only[an]at E;refine⟨Y2 rfl,L0,ag _,?_⟩;unfold ae Tryz.f75;simp only[go_sem];intro b O;refine⟨λh=>?_,λ_=>?_⟩;have U:=O h;subst U;rfl;first|exact E|exact⟨E,λ_=>rfl⟩
def bA (x:Claim)(rs_:List Int):Bool:=(!(dQ rs_ x.right))
@[go_sem] noncomputable def yo:List SV->Option Con:=(pD .x6 λx=>(pXR .int λrs_=>(pE (.det True (.v (.bool (bA x rs_)))))))
theorem qP:zs Tryz.prog 76 yo:=by
 have hG:=mG (cn [.sl .int,.o] lN C1) C1;refine fN hG Tryz.f76 [.o] (ax λx=>(vr λE=>(am (λO=>?_))));dsimp only[an]at O;refine⟨Y2 rfl,L0,ag _,?_⟩;unfold ae Tryz.f76;try unfold bA
 exact zq2
@[go_sem] def eI (s_:List Claim)(rs_:List Int)(Q1:Nat)(ly:Unit):Int⊕Unit:=(bif(bA (s_.getD Q1 default) rs_)then .inl (Q1:Int)else .inr ())
def aY (s_:List Claim)(rs_:List Int):Int:=(match aj (eI s_ rs_) s_.length 0 ()with| .inl gl=>gl| .inr ly=>(-1))
@[go_sem] noncomputable def gO:List SV->Option Con:=(pR .x6 λs_=>(pFn 76 (pXR .int λrs_=>(pE ((pE (.det True (.v (.int .i64 (aY s_ rs_))))))))))
theorem lA:zs Tryz.prog 134 gO:=by
 have hG:=mG (cp qP C1) C1;refine fN hG Tryz.f134 [.o] (bD λO=>(mr (vr λV=>(am ((am (λY=>?_)))))));dsimp only[an]at Y;refine⟨Y2 rfl,(λid st=>bif Nat.beq id 0 then some (LCR (ρ:=Int) (σ:=Unit) 0 [] [] (λU W=>⟨[(0,.rs .x6 O),(1,.fn 76 [] [.ep [.rs .int V] 0]),(7,.v (.int .i64 (O.length:Int))),(8,.v (.int .i64 (U:Int)))],[]⟩) (eI O V) pT O.length () (O.length<=aH) (λ_=>.ret) (λE=>⟨[(4,.v (.int .i64 E))],[]⟩) st)else none),?_,?_⟩;unfold ae Tryz.f134;simp only[ak,true_and,and_true];refine bL mixed aB hG kr (λ_=>rfl) (O.length:Int) rfl fj (λhb0 U W X _ hw hc=>⟨L0,ag _,?_⟩) (λhb0 W hc=>?_);exact bB (jl []);exact bC (jl []);unfold ae Tryz.f134;try unfold aY
 exact zq2
@[go_sem] noncomputable def gC:List SV->Option Con:=λl=>(gO l)
def kX:zs Tryz.prog 134 gC:=lA
@[go_sem] def bN (l_:List Claim)(rs_:List Int)(Q1:Nat)(ly:List Claim×Int×Int):(Int×List Claim)⊕(List Claim×Int×Int):=letI q0:=ly.1.getD (Int.toNat ly.2.2) default;letI q1:=i64.wrap (ly.2.2+1);(bif(decide (ly.2.2< (ly.1.length:Int)))then(bif(!(bA q0 rs_))then .inr ((ly.1.set (Int.toNat ly.2.1) q0),(i64.wrap (ly.2.1+1)),q1)else .inr (ly.1,ly.2.1,q1))else .inl (ly.2.1,ly.1))
def b8 (l_:List Claim)(rs_:List Int)(Q1:Nat)(ly:List Claim×Int×Int):Prop:=letI q0:=(ly.1.length:Int);(ly.1.length<=aH->((decide (ly.2.2<q0))=true->((0<=ly.2.2/\ly.2.2<q0)/\((!(bA (ly.1.getD (Int.toNat ly.2.2) default) rs_))=true->(0<=ly.2.1/\ly.2.1<q0)))))
def bF (l_:List Claim)(rs_:List Int):List Claim:=letI q0:=aY l_ rs_;(bif(q0==(-1))then l_ else(match aj (bN l_ rs_) (l_.length+1) 0 (l_,q0,(i64.wrap (q0+1)))with| .inl gl=>(((wF .x6 gl.2 gl.1 (gl.2.length:Int)).take (Int.toNat gl.1)).drop 0) | .inr ly=>default))
def bv (l_:List Claim)(rs_:List Int):Prop:=letI q0:=aY l_ rs_;letI q1:=bN l_ rs_;letI q2:=(l_,q0,(i64.wrap (q0+1)));letI q3:=l_.length+1;((q0==(-1))=false->(okI q1 (b8 l_ rs_) q3 0 q2/\(∀ z_,aj q1 q3 0 q2≠ .inr z_)/\(∀ gl,aj q1 q3 0 q2=.inl gl->((0<=gl.1/\gl.1<=(gl.2.length:Int))/\(0<=0/\0<=gl.1/\gl.1<=((wF .x6 gl.2 gl.1 (gl.2.length:Int)).length:Int))))))
noncomputable def gD:List SV->List Ob->Option apd:=i7 (λx_:(List Claim)×(List Int) =>[.os 0,.fn 76 [] [.ptr 1 0]]) (λx_=>[.row .x6 x_.1,.cells [.rs .int x_.2]]) (λx_=>ft (bv x_.1 x_.2) (.os 2) [.dead,.cells [.rs .int x_.2],.row .x6 (bF x_.1 x_.2)])
@[go_sem]def vE (l_:List Claim)(rs_:List Int):gD ([.os 0,.fn (76:Nat) [] [.ptr 1 0]]) ([.row .x6 l_,.cells [.rs .int rs_]])=some (ft (bv l_ rs_) (.os 2) [.dead,.cells [.rs .int rs_],.row .x6 (bF l_ rs_)]):=fF (A:=λx_:(List Claim)×(List Int) =>[.os 0,.fn 76 [] [.ptr 1 0]]) (H:=λx_=>[.row .x6 x_.1,.cells [.rs .int x_.2]]) (K:=λx_=>ft (bv x_.1 x_.2) (.os 2) [.dead,.cells [.rs .int x_.2],.row .x6 (bF x_.1 x_.2)]) (x:=(l_,rs_))
theorem ar8(a0:JL l0)(a1:JL l1)(h:JL l0->JL l1->p:=by intro ja jb;simp only[go_sem,gC];all_goals exact gj ja jb):p:=h a0 a1
theorem kY:ape Tryz.prog 74 (gD):=by
 have hG:=mG (cp qP (cn [.sl .x6,.o] kX C1)) C1;refine fR hG Tryz.f74 (λl o Y h=>?_);obtain⟨⟨V,E⟩,rfl,rfl,rfl⟩:=dP h;clear h;try dsimp only
 refine⟨_,_,_,rfl,λhp=>?_⟩;unfold bv at hp;refine⟨Y2 rfl,(λid st=>bif Nat.beq id 0 then some (LCV (ρ:=(Int×List Claim)) (σ:=(List Claim×Int×Int)) 2 [] [0,1] (λX U=>⟨[(0,.os 0),(1,.fn 76 [] [.ptr 1 0]),(5,.v (.int .i64 U.2.1)),(6,.v (.int .i64 U.2.2))],[.row .x6 U.1,.cells [.rs .int E]]⟩) (bN V E) (b8 V E) (V.length+1) (V,(aY V E),(i64.wrap ((aY V E)+1))) (λ_=>.normal) (λO=>⟨[(0,.os 0),(5,.v (.int .i64 O.1))],[.row .x6 O.2,.cells [.rs .int E]]⟩) st)else none),?_,?_⟩;unfold ae Tryz.f74;simp only[ak,true_and,and_true,and_assoc];refine eJ mixed aB hG kr (λ_=>rfl) λX U W=>⟨L0,ag _,?_⟩;unfold b8 at W;exact cU (jl [0,1]);unfold ae Tryz.f74;try unfold bF
 exact ar8 (jl [0,1,0]) (jl [0,1,2])
def da (s_:x4)(ai:List Int):x4:=({ d:=s_.d,c:=(bF s_.c ai)}:x4)
def jo (s_:x4)(ai:List Int):Prop:=((s_.c.length*40<=dI)/\(bv s_.c ai))
@[go_sem] def Au:List SV->Option Con:=(pD .x5 λs_=>(pR .int λai=>(pE (.det (jo s_ ai) (.agg (cellsOf .x5 (da s_ ai)))))))
theorem sP:zs Tryz.prog 32 Au:=by
 have hG:=mG (cn [.sl .x6] wu C1) (co kY C1);refine fN hG Tryz.f32 [.st .x5] (ax λO=>(bD λai=>(am (λE=>?_))));dsimp only[an]at E;unfold jo at E;refine⟨Y2 rfl,L0,ag _,?_⟩;unfold ae Tryz.f32;try unfold da
 exact zq2
def xS (d:ah):Bool:=((((((decide ((d.reaches.length:Int)<=100))&&(decide ((d.l5.length:Int)<=700)))&&(decide ((d.apg.length:Int)<=100)))&&(decide ((d.ai.length:Int)<=300)))&&(decide ((d.apb.length:Int)<=300)))&&(decide ((d.apQ.length:Int)<=100)))
@[go_sem] def M3:List SV->Option Con:=(pD .al λd=>(pE (.det True (.v (.bool (xS d))))))
theorem Kz:zs Tryz.prog 125 M3:=by
 have hG:=mG C1 C1;refine fN hG Tryz.f125 [.o] (ax λd=>(am (λE=>?_)));dsimp only[an]at E;refine⟨Y2 rfl,L0,ag _,?_⟩;unfold ae Tryz.f125;try unfold xS
 exact zq2
def aM (n:Int)(lo:Int)(hi:Int):Bool:=((decide (n>=lo))&&(decide (n<=hi)))
@[go_sem] def Fx:List SV->Option Con:=(pI λn=>(pI λlo=>(pI λhi=>(pE (.det True (.v (.bool (aM n lo hi))))))))
theorem kC:zs Tryz.prog 299 Fx:=by
 have hG:=mG C1 C1;refine fN hG Tryz.f299 [.o] (az λn=>(az λlo=>(az λhi=>(am (λE=>?_)))));dsimp only[an]at E;refine⟨Y2 rfl,L0,ag _,?_⟩;unfold ae Tryz.f299;try unfold aM
 exact zq2
@[go_sem] def iG (b:Int)(Q1:Nat)(ly:Int×Int):Int⊕(Int×Int):=(bif(decide (ly.2 > 0))then .inr (ly.2,(Int.tmod ly.1 ly.2))else .inl ly.1)
def nT (b:Int)(Q1:Nat)(ly:Int×Int):Prop:=((decide (ly.2 > 0))=true->ly.2≠0)
def mZ (a:Int)(b:Int):Int:=(match aj (iG b) (Int.toNat b+1) 0 (a,b)with| .inl gl=>gl| .inr ly=>default)
def nH (a:Int)(b:Int):Prop:=(okI (iG b) (nT b) (Int.toNat b+1) 0 (a,b)/\(∀ z_,aj (iG b) (Int.toNat b+1) 0 (a,b)≠ .inr z_))
@[go_sem] def Dj:List SV->Option Con:=(pI λa=>(pI λb=>(pE (.det (nH a b) (.v (.int .i64 (mZ a b)))))))
theorem BJ:zs Tryz.prog 332 Dj:=by
 have hG:=mG C1 C1;refine fN hG Tryz.f332 [.o] (az λa=>(az λb=>(am (λW=>?_))));dsimp only[an]at W;unfold nH at W;refine⟨Y2 rfl,(λid st=>bif Nat.beq id 0 then some (LCV (ρ:=Int) (σ:=(Int×Int)) 0 [] [] (λV E=>⟨[(0,.v (.int .i64 E.1)),(1,.v (.int .i64 E.2))],[]⟩) (iG b) (nT b) (Int.toNat b+1) (a,b) (λ_=>.normal) (λO=>⟨[(0,.v (.int .i64 O))],[]⟩) st)else none),?_,?_⟩;unfold ae Tryz.f332;simp only[ak,true_and,and_true];refine eJ mixed aB hG kr (λ_=>rfl) λV E U=>⟨L0,ag _,?_⟩;unfold nT at U;exact cU (jl []);unfold ae Tryz.f332;try unfold mZ
 exact zq2
def pJ (n:Int):Int:=(bif(decide (n<0))then(i64.wrap (0 - n))else n)
@[go_sem] def KA:List SV->Option Con:=(pI λn=>(pE (.det True (.v (.int .i64 (pJ n))))))
theorem HD:zs Tryz.prog 333 KA:=by
 have hG:=mG C1 C1;refine fN hG Tryz.f333 [.o] (az λn=>(am (λE=>?_)));dsimp only[an]at E;refine⟨Y2 rfl,L0,ag _,?_⟩;unfold ae Tryz.f333;try unfold pJ
 exact zq2
def ei (a:B1):Bool:=(((((decide (a.d>=1))&&(decide (a.d<=1073741824)))&&(decide (a.n>=(-1073741824))))&&(decide (a.n<=1073741824)))&&((mZ (pJ a.n) a.d) ==1))
def iF (a:B1):Prop:=(((((decide (a.d>=1))&&(decide (a.d<=1073741824)))&&(decide (a.n>=(-1073741824))))&&(decide (a.n<=1073741824)))=true->(nH (pJ a.n) a.d))
@[go_sem] def HE:List SV->Option Con:=(pD .ratio λa=>(pE (.det (iF a) (.v (.bool (ei a))))))
theorem oM:zs Tryz.prog 303 HE:=by
 have hG:=mG (cp BJ (cp HD C1)) C1;refine fN hG Tryz.f303 [.o] (ax λa=>(am (λE=>?_)));dsimp only[an]at E;unfold iF at E;refine⟨Y2 rfl,L0,ag _,?_⟩;unfold ae Tryz.f303;try unfold ei
 exact zq2
def jp (a:B1):Int:=(bif(!(ei a))then 120 else 0)
def qh (a:B1):Prop:=(iF a)
@[go_sem] def HF:List SV->Option Con:=(pD .ratio λa=>(pE (.det (qh a) (.v (.int .i64 (jp a))))))
theorem Fy:zs Tryz.prog 347 HF:=by
 have hG:=mG (cp oM C1) C1;refine fN hG Tryz.f347 [.o] (ax λa=>(am (λE=>?_)));dsimp only[an]at E;unfold qh at E;refine⟨Y2 rfl,L0,ag _,?_⟩;unfold ae Tryz.f347;try unfold jp
 exact zq2
def sQ (a:B1)(b:B1):Bool:=(decide ((i64.wrap (a.n*b.d)) < (i64.wrap (b.n*a.d))))
@[go_sem] def KB:List SV->Option Con:=(pD .ratio λa=>(pD .ratio λb=>(pE (.det True (.v (.bool (sQ a b)))))))
theorem HG:zs Tryz.prog 311 KB:=by
 have hG:=mG C1 C1;refine fN hG Tryz.f311 [.o] (ax λa=>(ax λb=>(am (λE=>?_))));dsimp only[an]at E;refine⟨Y2 rfl,L0,ag _,?_⟩;unfold ae Tryz.f311;try unfold sQ
 exact zq2
def kl (a:B1)(b:B1):Bool:=((ei a)&&(ei b))
def oN (a:B1)(b:B1):Prop:=((iF a)/\((ei a)=true->(iF b)))
@[go_sem] def KC:List SV->Option Con:=(pD .ratio λa=>(pD .ratio λb=>(pE (.det (oN a b) (.v (.bool (kl a b)))))))
theorem yL:zs Tryz.prog 334 KC:=by
 have hG:=mG (cp oM C1) C1;refine fN hG Tryz.f334 [.o] (ax λa=>(ax λb=>(am (λE=>?_))));dsimp only[an]at E;unfold oN at E;refine⟨Y2 rfl,L0,ag _,?_⟩;unfold ae Tryz.f334;try unfold kl
 exact zq2
def pK (a:B1)(b:B1):Int×Int:=(bif(!(kl a b))then(0,120)else(bif(sQ a b)then((-1),0)else(bif(sQ b a)then(1,0)else(0,0))))
def xk (a:B1)(b:B1):Prop:=(oN a b)
@[go_sem] def M4:List SV->Option Con:=(pD .ratio λa=>(pD .ratio λb=>(pE (.det (xk a b) (.tup [.v (.int .i64 ((pK a b).1)),.v (.int .i64 ((pK a b).2))])))))
theorem KD:zs Tryz.prog 348 M4:=by
 have hG:=mG (cp HG (cp yL C1)) C1;refine fN hG Tryz.f348 [.o,.o] (ax λa=>(ax λb=>(am (λE=>?_))));dsimp only[an]at E;unfold xk at E;refine⟨Y2 rfl,L0,ag _,?_⟩;unfold ae Tryz.f348;try unfold pK
 exact zq2
@[go_sem] def kO (a1:Int)(Q1:Nat)(ly:Int×Int):(Int×Int)⊕(Int×Int):=(bif(decide (ly.2< (-1)))then .inr (ly.2,(Int.tmod ly.1 ly.2))else .inl (ly.1,ly.2))
def nI (a1:Int)(Q1:Nat)(ly:Int×Int):Prop:=((decide (ly.2< (-1)))=true->ly.2≠0)
def pL (a0:Int)(a1:Int):B1×Int:=letI q0:=bif(decide (a0 > 0))then(i64.wrap (0 - a0))else a0;letI q1:=bif(decide (a1 > 0))then(i64.wrap (0 - a1))else a1;letI q2:=i64.wrap (Int.tdiv q0 (-1));letI q3:=i64.wrap (Int.tdiv q1 (-1));letI q4:=(decide (a0<0)) !=(decide (a1<0));letI q5:=decide (q0< (-1073741824));letI q6:=decide (q1< (-1073741824));(bif(a1==0)then(({ n:=0,d:=0}:B1),120)else(match aj (kO a1) (Int.natAbs a1+2) 0 (q0,q1)with| .inl gl=>(bif(gl.2==(-1))then(bif(q5||q6)then(({ n:=0,d:=0}:B1),2)else(bif((decide (q2 > 1073741824)) ||(decide (q3 > 1073741824)))then(({ n:=0,d:=0}:B1),2)else(bif q4 then(({ n:=(i64.wrap (0 - q2)),d:=q3}:B1),0)else(({ n:=q2,d:=q3}:B1),0))))else(bif((gl.1==(-1))&&(q5||q6))then(({ n:=0,d:=0}:B1),2)else(bif((decide ((i64.wrap (Int.tdiv q0 gl.1)) > 1073741824)) ||(decide ((i64.wrap (Int.tdiv q1 gl.1)) > 1073741824)))then(({ n:=0,d:=0}:B1),2)else(bif q4 then(({ n:=(i64.wrap (0 - (i64.wrap (Int.tdiv q0 gl.1)))),d:=(i64.wrap (Int.tdiv q1 gl.1))}:B1),0)else(({ n:=(i64.wrap (Int.tdiv q0 gl.1)),d:=(i64.wrap (Int.tdiv q1 gl.1))}:B1),0))))) | .inr ly=>default))
def oO (a0:Int)(a1:Int):Prop:=letI q1:=bif(decide (a0 > 0))then(i64.wrap (0 - a0))else a0;letI q2:=bif(decide (a1 > 0))then(i64.wrap (0 - a1))else a1;letI q0:=(q1,q2);letI q3:=Int.natAbs a1+2;letI q4:=kO a1;letI q5:=decide (q1< (-1073741824));letI q6:=decide (q2< (-1073741824));((a1==0)=false->(okI q4 (nI a1) q3 0 q0/\(∀ z_,aj q4 q3 0 q0≠ .inr z_)/\(∀ gl,aj q4 q3 0 q0=.inl gl->(((gl.2==(-1))=true->((q5||q6)=false->((-1)≠0/\(-1)≠0)))/\((gl.2==(-1))=false->(((gl.1==(-1))&&(q5||q6))=false->(gl.1≠0/\gl.1≠0)))))))
@[go_sem] def KE:List SV->Option Con:=(pI λa0=>(pI λa1=>(pE (.det (oO a0 a1) (.tup [.agg (cellsOf .ratio ((pL a0 a1).1)),.v (.int .i64 ((pL a0 a1).2))])))))
theorem HH:zs Tryz.prog 335 KE:=by
 have hG:=mG C1 C1;refine fN hG Tryz.f335 [.st .ratio,.o] (az λa0=>(az λa1=>(am (λW=>?_))));dsimp only[an]at W;unfold oO at W;refine⟨Y2 rfl,(λid st=>bif Nat.beq id 1000016 then some (JC (⟨[(0,.v (.int .i64 a0)),(1,.v (.int .i64 a1)),(4,.ptr 0 0),(6,.v (.int .i64 (bif(decide (a0 > 0))then(i64.wrap (0 - a0))else a0)))],[.cells [.v (.int .i64 0),.v (.int .i64 0)]]⟩))else bif Nat.beq id 1000021 then some (JC (⟨[(0,.v (.int .i64 a0)),(1,.v (.int .i64 a1)),(4,.ptr 0 0),(6,.v (.int .i64 (bif(decide (a0 > 0))then(i64.wrap (0 - a0))else a0))),(7,.v (.int .i64 (bif(decide (a1 > 0))then(i64.wrap (0 - a1))else a1)))],[.cells [.v (.int .i64 0),.v (.int .i64 0)]]⟩))else bif Nat.beq id 0 then some (LCV (ρ:=(Int×Int)) (σ:=(Int×Int)) 1 [] [0] (λV O=>⟨[(0,.v (.int .i64 a0)),(1,.v (.int .i64 a1)),(4,.ptr 0 0),(6,.v (.int .i64 (bif(decide (a0 > 0))then(i64.wrap (0 - a0))else a0))),(7,.v (.int .i64 (bif(decide (a1 > 0))then(i64.wrap (0 - a1))else a1))),(8,.v (.int .i64 O.1)),(9,.v (.int .i64 O.2))],[.cells [.v (.int .i64 0),.v (.int .i64 0)]]⟩) (kO a1) (nI a1) (Int.natAbs a1+2) ((bif(decide (a0 > 0))then(i64.wrap (0 - a0))else a0),(bif(decide (a1 > 0))then(i64.wrap (0 - a1))else a1)) (λ_=>.normal) (λE=>⟨[(0,.v (.int .i64 a0)),(1,.v (.int .i64 a1)),(4,.ptr 0 0),(6,.v (.int .i64 (bif(decide (a0 > 0))then(i64.wrap (0 - a0))else a0))),(7,.v (.int .i64 (bif(decide (a1 > 0))then(i64.wrap (0 - a1))else a1))),(8,.v (.int .i64 E.1)),(9,.v (.int .i64 E.2))],[.cells [.v (.int .i64 0),.v (.int .i64 0)]]⟩) st)else none),?_,?_⟩;unfold ae Tryz.f335;simp only[ak,true_and,and_true];refine eJ mixed aB hG kr (λ_=>rfl) λV O U=>⟨L0,ag _,?_⟩;unfold nI at U;exact cU (jl [0]);unfold ae Tryz.f335;try unfold pL
 exact zq2
def sj (a:B1)(b:B1):B1×Int:=letI q0:=pL (i64.wrap ((i64.wrap (a.n*b.d))+(i64.wrap (b.n*a.d)))) (i64.wrap (a.d*b.d));(bif(!(kl a b))then(({ n:=0,d:=0}:B1),120)else((q0.1),q0.2))
def qQ (a:B1)(b:B1):Prop:=((oN a b)/\((!(kl a b))=false->(oO (i64.wrap ((i64.wrap (a.n*b.d))+(i64.wrap (b.n*a.d)))) (i64.wrap (a.d*b.d)))))
@[go_sem] def M5:List SV->Option Con:=(pD .ratio λa=>(pD .ratio λb=>(pE (.det (qQ a b) (.tup [.agg (cellsOf .ratio ((sj a b).1)),.v (.int .i64 ((sj a b).2))])))))
theorem KF:zs Tryz.prog 304 M5:=by
 have hG:=mG (cp yL (cp HH C1)) C1;refine fN hG Tryz.f304 [.st .ratio,.o] (ax λa=>(ax λb=>(am (λE=>?_))));dsimp only[an]at E;unfold qQ at E;refine⟨Y2 rfl,L0,ag _,?_⟩;unfold ae Tryz.f304;try unfold sj
 exact zq2
def oa (n:Int)(d:Int):Int:=(bif(decide ((Int.tmod n d) <0))then(i64.wrap ((i64.wrap (Int.tdiv n d)) - 1))else(i64.wrap (Int.tdiv n d)))
def qi (n:Int)(d:Int):Prop:=(d≠0/\d≠0)
@[go_sem] def HI:List SV->Option Con:=(pI λn=>(pI λd=>(pE (.det (qi n d) (.v (.int .i64 (oa n d)))))))
theorem Fz:zs Tryz.prog 305 HI:=by
 have hG:=mG C1 C1;refine fN hG Tryz.f305 [.o] (az λn=>(az λd=>(am (λE=>?_))));dsimp only[an]at E;unfold qi at E;refine⟨Y2 rfl,L0,ag _,?_⟩;unfold ae Tryz.f305;try unfold oa
 exact zq2
def gf (a:B1)(n:Int):Int×Int×Int:=(bif(!(ei a))then(0,0,120)else(bif((decide (n< (-1073741824))) ||(decide (n > 1073741824)))then(0,0,1)else((oa (i64.wrap (a.n*n)) a.d),(i64.wrap (0 - (oa (i64.wrap ((i64.wrap (0 - a.n))*n)) a.d))),0)))
def na (a:B1)(n:Int):Prop:=((iF a)/\((!(ei a))=false->(((decide (n< (-1073741824))) ||(decide (n > 1073741824)))=false->((qi (i64.wrap (a.n*n)) a.d)/\(qi (i64.wrap ((i64.wrap (0 - a.n))*n)) a.d)))))
@[go_sem] def HJ:List SV->Option Con:=(pD .ratio λa=>(pI λn=>(pE (.det (na a n) (.tup [.v (.int .i64 ((gf a n).1)),.v (.int .i64 ((gf a n).2.1)),.v (.int .i64 ((gf a n).2.2))])))))
theorem FA:zs Tryz.prog 258 HJ:=by
 have hG:=mG (cp oM (cp Fz C1)) C1;refine fN hG Tryz.f258 [.o,.o,.o] (ax λa=>(az λn=>(am (λE=>?_))));dsimp only[an]at E;unfold na at E;refine⟨Y2 rfl,L0,ag _,?_⟩;unfold ae Tryz.f258;try unfold gf
 exact zq2
def jq (x:B1×B1):Bool:=(bif(((jp x.1) !=0) ||((jp x.2) !=0))then false else(((decide (x.1.n>=0))&&(decide ((pK x.1 x.2).1<=0)))&&(decide (x.2.n<=x.2.d))))
def oQ (x:B1×B1):Prop:=((qh x.1)/\((((jp x.1) !=0)=false->(qh x.2))/\((((jp x.1) !=0) ||((jp x.2) !=0))=false->(xk x.1 x.2))))
@[go_sem] def FB:List SV->Option Con:=(pD .apJ λx=>(pE (.det (oQ x) (.v (.bool (jq x))))))
theorem Dk:zs Tryz.prog 344 FB:=by
 have hG:=mG (cp Fy (cp KD C1)) C1;refine fN hG Tryz.f344 [.o] (ax λx=>(am (λE=>?_)));dsimp only[an]at E;unfold oQ at E;refine⟨Y2 rfl,L0,ag _,?_⟩;unfold ae Tryz.f344;try unfold jq
 exact zq2
def qR (x:Reach):Bool:=(bif(((!(aM x.delay 1 16)) ||(!(aM x.cap 0 1073741824))) ||(!(aM x.apH 0 1099511627776)))then false else(bif(((!(aM x.apl 0 (if x.apH<x.cap then x.apH else x.cap))) ||(!(aM x.apP.lo 0 x.apP.hi))) ||(decide (x.apP.hi > 1073741824)))then false else(jq x.apt)))
def qj (x:Reach):Prop:=((((!(aM x.delay 1 16)) ||(!(aM x.cap 0 1073741824))) ||(!(aM x.apH 0 1099511627776)))=false->((((!(aM x.apl 0 (if x.apH<x.cap then x.apH else x.cap))) ||(!(aM x.apP.lo 0 x.apP.hi))) ||(decide (x.apP.hi > 1073741824)))=false->(oQ x.apt)))
@[go_sem] def HK:List SV->Option Con:=(pD .reach λx=>(pE (.det (qj x) (.v (.bool (qR x))))))
theorem FC:zs Tryz.prog 331 HK:=by
 have hG:=mG (cp kC (cp Dk C1)) C1;refine fN hG Tryz.f331 [.o] (ax λx=>(am (λE=>?_)));dsimp only[an]at E;unfold qj at E;refine⟨Y2 rfl,L0,ag _,?_⟩;unfold ae Tryz.f331;try unfold qR
 exact zq2
@[go_sem] def iH (l_:List Reach)(Q1:Nat)(ly:Unit):Unit⊕Unit:=letI q0:=l_.getD Q1 default;letI q1:=(Q1:Int);(bif(((q1==0)&&(q0.up !=(-1))) ||((decide (q1 > 0))&&(!(aM (q0.up) 0 (i64.wrap (q1 - 1))))))then .inl ()else(bif(!(qR q0))then .inl ()else .inr ()))
def nU (l_:List Reach)(Q1:Nat)(ly:Unit):Prop:=(l_.length<=aH->(((((Q1:Int) ==0)&&((l_.getD Q1 default).up !=(-1))) ||((decide ((Q1:Int) > 0))&&(!(aM ((l_.getD Q1 default).up) 0 (i64.wrap ((Q1:Int) - 1))))))=false->(qj (l_.getD Q1 default))))
def nc (l_:List Reach):Bool:=(match aj (iH l_) l_.length 0 ()with| .inl gl=>false| .inr ly=>(decide ((l_.length:Int) > 0)))
def rt (l_:List Reach):Prop:=okI (iH l_) (nU l_) l_.length 0 ()
@[go_sem] def Dl:List SV->Option Con:=(pR .reach λl_=>(pE (.det (rt l_) (.v (.bool (nc l_))))))
theorem BK:zs Tryz.prog 300 Dl:=by
 have hG:=mG (cp kC (cp FC C1)) C1;refine fN hG Tryz.f300 [.o] (bD λU=>(am (λY=>?_)));dsimp only[an]at Y;unfold rt at Y;refine⟨Y2 rfl,(λid st=>bif Nat.beq id 0 then some (LCR (ρ:=Unit) (σ:=Unit) 0 [] [] (λE O=>⟨[(0,.rs .reach U),(3,.v (.int .i64 (E:Int)))],[]⟩) (iH U) (nU U) U.length () (True) (λ_=>.ret) (λW=>⟨[(2,.v (.bool false))],[]⟩) st)else none),?_,?_⟩;unfold ae Tryz.f300;simp only[ak,true_and,and_true];refine ez (U.length<=aH) mixed aB hG kr (λ_=>rfl) (U.length:Int) rfl fj (λhb0 E O X V hw hc=>⟨L0,ag _,?_⟩) (λhb0 O hc=>?_) λhb0 E O=>?_;unfold nU at V;try simp only[hw,alI]at V
 exact bB (jl []);exact bC (jl []);exact zq8;unfold ae Tryz.f300;try unfold nc
 exact zq2
@[go_sem] def lO (a0:ah)(Q1:Nat)(ly:Unit):Unit⊕Unit:=(bif(!(aM ((a0.apg.getD Q1 default).need) 0 1048576))then .inl ()else .inr ())
@[go_sem] def lP (a0:ah)(k_1:Nat)(s_1:Unit):Unit⊕Unit:=letI q0:=a0.l5.getD k_1 default;(bif((!(aM (q0.reach) 0 (i64.wrap ((a0.reaches.length:Int) - 1)))) ||(!(aM (q0.aqE) 0 1048576)))then .inl ()else(bif(((q0.aqE==0)&&(q0.apL !=(-1))) ||((decide (q0.aqE > 0))&&(!(aM (q0.apL) 0 (i64.wrap ((a0.apg.length:Int) - 1))))))then .inl ()else .inr ()))
def qS (a0:ah):Bool:=(match aj (lO a0) a0.apg.length 0 ()with| .inl gl=>false| .inr ly=>(match aj (lP a0) a0.l5.length 0 ()with| .inl apR=>false| .inr s_1=>true))
@[go_sem] def HL:List SV->Option Con:=(pD .al λa0=>(pE (.det True (.v (.bool (qS a0))))))
theorem Pt(h:p:=by simp only[go_sem,hb1]):p:=h
theorem FD:zs Tryz.prog 301 HL:=by
 have hG:=mG (cp kC C1) C1;refine fN hG Tryz.f301 [.o] (ax λa0=>(am (λhp=>?_)));dsimp only[an]at hp;refine⟨Y2 rfl,(λid st=>bif Nat.beq id 0 then some (LCR (ρ:=Unit) (σ:=Unit) 1 [] [0] (λE U=>⟨[(1,.ptr 0 0),(3,.v (.int .i64 (E:Int)))],[.cells (cellsOf .al a0)]⟩) (lO a0) pT a0.apg.length () (True) (λ_=>.ret) (λX=>⟨[(2,.v (.bool false))],[.dead]⟩) st)else bif Nat.beq id 2 then some (LCR (ρ:=Unit) (σ:=Unit) 1 [] [0] (λO V=>⟨[(1,.ptr 0 0),(4,.v (.int .i64 (O:Int)))],[.cells (cellsOf .al a0)]⟩) (lP a0) pT a0.l5.length () (True) (λ_=>.ret) (λW=>⟨[(2,.v (.bool false))],[.dead]⟩) st)else none),?_,?_⟩;unfold ae Tryz.f301;simp only[ak,true_and,and_true];refine⟨?_,?_⟩;refine ez (a0.apg.length<=aH) mixed aB hG kr (λ_=>rfl) (a0.apg.length:Int) rfl fj (λhb0 E U Y _ hw hc=>⟨L0,ag _,?_⟩) (λhb0 U hc=>?_) λhb0 E U=>?_;exact bB (jl [0]);exact bC (jl [0]);exact zq8;refine ez (a0.l5.length<=aH) mixed aB hG kr (λ_=>rfl) (a0.l5.length:Int) rfl fj (λhb1 O V aqy _ hw hc=>⟨L0,ag _,?_⟩) (λhb1 V hc=>?_) λhb1 O V=>?_;exact bB (jl [0]);exact bC (jl [0]);exact Pt;unfold ae Tryz.f301;try unfold qS
 exact zq2
def qT (a0:ah)(a1:apu):Bool:=letI q0:=(((a1.ao8==0)&&(a1.bo==0))&&(a1.every==0))&&(a1.length==0);(bif((((!(aM a1.dd 0 (i64.wrap ((a0.l5.length:Int) - 1)))) ||(!(aM a1.reach 0 (i64.wrap ((a0.reaches.length:Int) - 1))))) ||(!(aM a1.since 0 a1.to))) ||(decide (a1.to>=a0.hours)))then false else(bif(a1.kind==1)then(((((a1.reach==0)&&(aM a1.ao8 0 1048576))&&(aM a1.bo 1 1073741824))&&(aM a1.length 1 a1.every))&&(decide (a1.every<=a0.hours)))else(bif(a1.kind==2)then((q0&&(a1.since==0))&&(a1.to==(i64.wrap (a0.hours - 1))))else(bif(a1.kind==3)then q0 else false))))
@[go_sem] def HM:List SV->Option Con:=(pD .al λa0=>(pD .right λa1=>(pE (.det True (.v (.bool (qT a0 a1)))))))
theorem FE:zs Tryz.prog 302 HM:=by
 have hG:=mG (cp kC C1) C1;refine fN hG Tryz.f302 [.o] (ax λa0=>(ax λa1=>(am (λE=>?_))));dsimp only[an]at E;refine⟨Y2 rfl,L0,ag _,?_⟩;unfold ae Tryz.f302;try unfold qT
 exact zq2
@[go_sem] def lQ (a0:ah)(Q1:Nat)(ly:Unit):Unit⊕Unit:=(bif(!(qT a0 (a0.ai.getD Q1 default)))then .inl ()else .inr ())
@[go_sem] def lR (a0:ah)(k_1:Nat)(s_1:Unit):Unit⊕Unit:=letI q0:=a0.apb.getD k_1 default;(bif(((!(aM (q0.dd) 0 (i64.wrap ((a0.l5.length:Int) - 1)))) ||(!(aM (q0.reach) 0 (i64.wrap ((a0.reaches.length:Int) - 1))))) ||(!(aM (q0.due) 0 a0.hours)))then .inl ()else .inr ())
def oc (a0:ah):Bool:=(bif(((!(aM a0.hours 1 4096)) ||(!(aM a0.apa.start 0 a0.apa.cap))) ||(decide (a0.apa.cap > 1099511627776)))then false else(bif((!(nc a0.reaches)) ||(!(qS a0)))then false else(match aj (lQ a0) a0.ai.length 0 ()with| .inl gl=>false| .inr ly=>(match aj (lR a0) a0.apb.length 0 ()with| .inl apR=>false| .inr s_1=>true))))
def qk (a0:ah):Prop:=((((!(aM a0.hours 1 4096)) ||(!(aM a0.apa.start 0 a0.apa.cap))) ||(decide (a0.apa.cap > 1099511627776)))=false->(rt a0.reaches))
@[go_sem] def HN:List SV->Option Con:=(pD .al λa0=>(pE (.det (qk a0) (.v (.bool (oc a0))))))
theorem FF:zs Tryz.prog 252 HN:=by
 have hG:=mG (cp kC (cn [.sl .reach] BK (cn [.st .al] FD (cn [.st .al,.st .right] FE C1)))) C1;refine fN hG Tryz.f252 [.o] (ax λa0=>(am (λhp=>?_)));dsimp only[an]at hp;unfold qk at hp;refine⟨Y2 rfl,(λid st=>bif Nat.beq id 0 then some (LCR (ρ:=Unit) (σ:=Unit) 1 [] [0] (λE U=>⟨[(1,.ptr 0 0),(3,.v (.int .i64 (E:Int)))],[.cells (cellsOf .al a0)]⟩) (lQ a0) pT a0.ai.length () (True) (λ_=>.ret) (λX=>⟨[(2,.v (.bool false))],[.dead]⟩) st)else bif Nat.beq id 2 then some (LCR (ρ:=Unit) (σ:=Unit) 1 [] [0] (λO V=>⟨[(1,.ptr 0 0),(4,.v (.int .i64 (O:Int)))],[.cells (cellsOf .al a0)]⟩) (lR a0) pT a0.apb.length () (True) (λ_=>.ret) (λW=>⟨[(2,.v (.bool false))],[.dead]⟩) st)else none),?_,?_⟩;unfold ae Tryz.f252;simp only[ak,true_and,and_true];refine⟨?_,?_⟩;refine ez (a0.ai.length<=aH) mixed aB hG kr (λ_=>rfl) (a0.ai.length:Int) rfl fj (λhb0 E U Y _ hw hc=>⟨L0,ag _,?_⟩) (λhb0 U hc=>?_) λhb0 E U=>?_;exact bB (jl [0]);exact bC (jl [0]);exact zq8;refine ez (a0.apb.length<=aH) mixed aB hG kr (λ_=>rfl) (a0.apb.length:Int) rfl fj (λhb1 O V aqy _ hw hc=>⟨L0,ag _,?_⟩) (λhb1 V hc=>?_) λhb1 O V=>?_;exact bB (jl [0]);exact bC (jl [0]);exact Pt;unfold ae Tryz.f252;try unfold oc
 exact zq2
def lT (d:ah):Int:=(bif(((((decide ((d.reaches.length:Int) > 64)) ||(decide ((d.l5.length:Int) > 600))) ||(decide ((d.apg.length:Int) > 32))) ||(decide ((d.ai.length:Int) > 256))) ||(decide ((d.apb.length:Int) > 256)))then 2 else(bif(!(oc d))then 191 else 0))
def ql (d:ah):Prop:=(d.reaches.length<=aH->((((((decide ((d.reaches.length:Int) > 64)) ||(decide ((d.l5.length:Int) > 600))) ||(decide ((d.apg.length:Int) > 32))) ||(decide ((d.ai.length:Int) > 256))) ||(decide ((d.apb.length:Int) > 256)))=false->(qk d)))
@[go_sem] def HO:List SV->Option Con:=(pD .al λd=>(pE (.det (ql d) (.v (.int .i64 (lT d))))))
theorem FG:zs Tryz.prog 182 HO:=by
 have hG:=mG (cn [.st .al] FF C1) C1;refine fN hG Tryz.f182 [.o] (ax λd=>(am (λE=>?_)));dsimp only[an]at E;unfold ql at E;refine⟨Y2 rfl,L0,ag _,?_⟩;unfold ae Tryz.f182;try unfold lT
 exact zq2
@[go_sem] def yM (dm:List Int)(Q1:Nat)(ly:Unit):Int⊕Unit:=(bif((dm.getD Q1 0) !=0)then .inl (dm.getD Q1 0)else .inr ())
def jz (dm:List Int):Int:=(match aj (yM dm) dm.length 0 ()with| .inl gl=>gl| .inr ly=>0)
@[go_sem] def KG:List SV->Option Con:=(pR .int λdm=>(pE (.det True (.v (.int .i64 (jz dm))))))
theorem yN:zs Tryz.prog 81 KG:=by
 have hG:=mG C1 C1;refine fN hG Tryz.f81 [.o] (bD λdm=>(am (λW=>?_)));dsimp only[an]at W;refine⟨Y2 rfl,(λid st=>bif Nat.beq id 0 then some (LCR (ρ:=Int) (σ:=Unit) 0 [] [] (λO U=>⟨[(3,.v (.int .i64 0)),(6,.rs .int dm),(7,.v (.int .i64 (dm.length:Int))),(8,.v (.int .i64 (O:Int)))],[]⟩) (yM dm) pT dm.length () (dm.length<=aH) (λ_=>.ret) (λE=>⟨[(2,.v (.int .i64 E))],[]⟩) st)else none),?_,?_⟩;unfold ae Tryz.f81;simp only[ak,true_and,and_true];refine bL mixed aB hG kr (λ_=>rfl) (dm.length:Int) rfl fj (λhb0 O U V _ hw hc=>⟨L0,ag _,?_⟩) (λhb0 U hc=>?_);exact bB (jl []);exact bC (jl []);unfold ae Tryz.f81;try unfold jz
 exact zq2
def cO (x:ao0)(y:ao0):Int:=(jz ([(be x.right y.right),(be x.dd y.dd)]))
@[go_sem] def v_:List SV->Option Con:=(pD .holding λx=>(pD .holding λy=>(pE (.det True (.v (.int .i64 (cO x y)))))))
theorem BL:zs Tryz.prog 232 v_:=by
 have hG:=mG (cn [.sl .int] yN (cp eK C1)) C1;refine fN hG Tryz.f232 [.o] (ax λx=>(ax λy=>(am (λE=>?_))));dsimp only[an]at E;refine⟨Y2 rfl,L0,ag _,?_⟩;unfold ae Tryz.f232;try unfold cO
 exact zq2
theorem jr (x y:Int):be x y=if x<y then -1 else if x > y then 1 else 0:=by
 unfold be kL;simp[amS]
theorem Pu (x:Int)(l:List Int):jz (x::l)=if x=0 then jz l else x:=by
 have key:∀ l:List Int,jz l=match di (ρ:=Int) (λ(x:Int) (_:Unit) =>bif(x !=0)then .inl x else .inr ()) l ()with| .inl y=>y| .inr _=>0:=λl=>by
  unfold jz;have:=rP (ρ:=Int) (λ(x:Int) (_:Unit) =>bif(x !=0)then .inl x else .inr ()) 0 l ();rw[<-this];rfl
 rw[key,key];simp only[di];by_cases h:x=0
 subst h;rfl;have:(x !=0)=true:=by simpa using h
 rw[if_neg h,this];rfl
def SN:jz []=0:=rfl
def oq:List (Int×Int)->Prop
 | [] =>False|(a,b)::r=>a<b\/a=b/\oq r
theorem BN:∀ l:List (Int×Int),(jz (l.map λp=>be p.1 p.2) <0↔oq l)
 | [] =>by simp[SN,oq]
 |(a,b)::r=>by
  have hc:=jr a b;simp only[amu,Pu,hc,oq];rcases aog a b with h|h|h;simp[h];subst h;simp only[aoQ,if_false,if_true,true_and,false_or,gt_iff_lt];exact BN r;have h1:¬a<b:=by omega
  have h2:a≠b:=by omega
  simp[h1,h2,h]
def hlt (a b:ao0):Prop:=oq [(a.right,b.right),(a.dd,b.dd)]
def FH (a b:ao0):cO a b<0↔hlt a b:=BN [(a.right,b.right),(a.dd,b.dd)]
open Go.Shelf Go.Sort in
theorem KH {α:Type}{f:α->α->Int}{r:α->α->Prop}(e:∀ x y,f x y<0↔r x y)(h1:∀ x,¬r x x)(h2:∀ x y z,r x y->r y z->r x z)(U:∀ x y z,¬r x y->¬r y z->¬r x z):SWO (ltOf f):=by
 have O:∀ x y,ltOf f x y=true↔r x y:=λx y=>by unfold ltOf;rw[decide_eq_true_eq,e]
 have E:∀ x y,ltOf f x y=false↔¬r x y:=λx y=>by rw[<-O];simp
 exact⟨λx=>(E x x).2 (h1 x),λx y z a b=>(O x z).2 (h2 x y z ((O x y).1 a) ((O y z).1 b)),λx y z a b=>(E x z).2 (U x y z ((E x y).1 a) ((E y z).1 b))⟩
open Go.Shelf Go.Sort in
theorem CK:SWO (ltOf cO):=KH FH (λx=>by simp only[hlt,oq,and_false,or_false];omega) (λx y z h1 h2=>by simp only[hlt,oq,and_false,or_false]at *;omega) (λx y z h1 h2=>by simp only[hlt,oq,and_false,or_false]at *;omega)
end Go.Sx
end
