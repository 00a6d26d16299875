/- Part of the proof that the law RefuseEither returns true and leaves its arguments as they were, for all arguments of bulk at most 1048576 (the Upto form). -/
import Derived.Test.YtaikmgjfkejlkaaGreatE108
import Derived.Test.YtaikmgjfkejlkaaGreatE107
import Derived.Shelf.SortM.Plain
import Derived.Shelf.SortM.SortNone
import Derived.Ground.SlgmProg
import Derived.Shelf.SlGeneric
import Derived.Test.YtaikmgjfkejlkaaGreatE103
import Derived.Test.YtaikmgjfkejlkaaGreatProg
import Derived.Test.YtaikmgjfkejlkaaGreatE101
import Derived.Test.YtaikmgjfkejlkaaGreatE106
import Derived.Sort.Statements
import Derived.Shelf.SlSortCmp.Insertion
set_option linter.all false
set_option maxHeartbeats 4000000
set_option maxRecDepth 100000
section
namespace Go.Sx
open Go.Proofs
open IntKind (i64 u64)
@[go_sem] def bA (a:Int)(l_:List bn)(k_1:Nat)(s_1:List bn×Int):(List bn)⊕(List bn×Int):=letI q0:=i64.wrap (s_1.2 - 1);letI q1:=s_1.1.getD (Int.toNat s_1.2) default;letI q2:=s_1.1.getD (Int.toNat q0) default;(bif((decide (s_1.2 > a))&&(decide ((dR q1 q2) <0)))then .inr (((s_1.1.set (Int.toNat s_1.2) q2).set (Int.toNat q0) q1),q0)else .inl s_1.1)
def bN (a:Int)(l_:List bn)(k_1:Nat)(s_1:List bn×Int):Prop:=letI q0:=i64.wrap (s_1.2 - 1);letI q2:=decide (s_1.2 > a);letI q3:=(s_1.1.length:Int);letI q1:=0<=s_1.2/\s_1.2<q3;letI q4:=s_1.1.getD (Int.toNat q0) default;((q2=true->q1)/\((q2=true->(0<=q0/\q0<q3))/\((q2&&(decide ((dR (s_1.1.getD (Int.toNat s_1.2) default) q4) <0)))=true->((0<=q0/\q0<q3)/\(q1/\(q1/\(0<=q0/\q0< ((s_1.1.set (Int.toNat s_1.2) q4).length:Int))))))))
@[go_sem] def ba (a:Int)(b:Int)(l_:List bn)(k_0:Nat)(x4:List bn×Int):(List bn)⊕(List bn×Int):=(bif(decide (x4.2<b))then(match aj (bA a l_) (l_.length+1) 0 (x4.1,x4.2)with| .inl ape=>.inr (ape,(i64.wrap (x4.2+1))) | .inr s_1=>.inr default)else .inl x4.1)
def bp (a:Int)(b:Int)(l_:List bn)(k_0:Nat)(x4:List bn×Int):Prop:=letI q0:=bA a l_;((decide (x4.2<b))=true->(okI q0 (bN a l_) (l_.length+1) 0 (x4.1,x4.2)/\(∀ z_,aj q0 (l_.length+1) 0 (x4.1,x4.2)≠ .inr z_)))
def aM (a:Int)(b:Int)(l_:List bn):List bn:=(match aj (ba a b l_) (l_.length+1) 0 (l_,(i64.wrap (a+1)))with| .inl u0=>u0| .inr x4=>default)
def bb (a:Int)(b:Int)(l_:List bn):Prop:=letI q0:=ba a b l_;letI q1:=(l_,(i64.wrap (a+1)));(okI q0 (bp a b l_) (l_.length+1) 0 q1/\(∀ z_,aj q0 (l_.length+1) 0 q1≠ .inr z_))
noncomputable def gR:List SV->List Ob->Option aoJ:=jf (λx_:Int×Int×(List bn) =>[.os 0,.v (.int .i64 x_.1),.v (.int .i64 x_.2.1),.fn 284 [] []]) (λx_=>[.row .B1 x_.2.2]) (λx_=>fK (bb x_.1 x_.2.1 x_.2.2) (.tup []) [.row .B1 (aM x_.1 x_.2.1 x_.2.2)])
@[go_sem]def wg (a:Int)(b:Int)(l_:List bn):gR ([.os 0,.v (.int .i64 a),.v (.int .i64 b),.fn 284 [] []]) ([.row .B1 l_])=some (fK (bb a b l_) (.tup []) [.row .B1 (aM a b l_)]):=fL (A:=λx_:Int×Int×(List bn) =>[.os 0,.v (.int .i64 x_.1),.v (.int .i64 x_.2.1),.fn 284 [] []]) (H:=λx_=>[.row .B1 x_.2.2]) (K:=λx_=>fK (bb x_.1 x_.2.1 x_.2.2) (.tup []) [.row .B1 (aM x_.1 x_.2.1 x_.2.2)]) (x:=(a,b,l_))
def lC:aoH Tryz.prog 338 (gR):=by
 have hG:=mG (cn [.st .B1,.st .B1] oI W2) W2;refine fR hG Tryz.f338 (λl o con h=>?_);obtain⟨⟨a,b,V⟩,rfl,rfl,rfl⟩:=dV h;clear h;try dsimp only
 refine⟨_,_,_,rfl,λhp=>?_⟩;unfold bb at hp;refine⟨nbl rfl,(λid st=>bif Nat.beq id 0 then some (LCV (ρ:=(List bn)) (σ:=(List bn×Int)) 1 [] [0] (λY E=>⟨[(0,.os 0),(1,.v (.int .i64 a)),(2,.v (.int .i64 b)),(3,.fn 284 [] []),(8,.v (.int .i64 E.2))],[.row .B1 E.1]⟩) (ba a b V) (bp a b V) (V.length+1) (V,(i64.wrap (a+1))) (λ_=>.normal) (λX=>⟨[],[.row .B1 X]⟩) st)else none),?_,?_⟩;unfold ae Tryz.f338;simp only[ak,true_and,and_true,and_assoc];refine eW mixed aJ hG kr (λ_=>rfl) λY E hq0=>⟨(λid st=>bif Nat.beq id 2 then some (LCV (ρ:=(List bn)) (σ:=(List bn×Int)) 1 [] [0] (λk_1 W=>⟨[(0,.os 0),(1,.v (.int .i64 a)),(2,.v (.int .i64 b)),(3,.fn 284 [] []),(8,.v (.int .i64 E.2)),(9,.v (.int .i64 W.2))],[.row .B1 W.1]⟩) (bA a V) (bN a V) (V.length+1) (E.1,E.2) (λ_=>.normal) (λO=>⟨[(0,.os 0),(1,.v (.int .i64 a)),(2,.v (.int .i64 b)),(3,.fn 284 [] []),(8,.v (.int .i64 E.2))],[.row .B1 O]⟩) st)else none),?_,?_⟩;simp only[ak,true_and,and_true];refine eW mixed aJ hG kr (λ_=>rfl) λk_1 W hq1=>⟨L0,ag _,?_⟩;unfold bN at hq1;exact db (jl [0]);unfold bp at hq0;exact db (jl [0]);unfold ae Tryz.f338;try unfold aM
 exact db (jl [0])
@[go_sem] def cr (a:Int)(b:Int)(n:Int)(k_0:Nat)(x4:List bn):Empty⊕(List bn):=letI q0:=Int.toNat (i64.wrap (a+(k_0:Int)));letI q1:=Int.toNat (i64.wrap (b+(k_0:Int)));.inr ((x4.set q0 (x4.getD q1 default)).set q1 (x4.getD q0 default))
def cV (a:Int)(b:Int)(n:Int)(k_0:Nat)(x4:List bn):Prop:=letI q0:=i64.wrap (b+(k_0:Int));letI q1:=i64.wrap (a+(k_0:Int));letI q2:=(x4.length:Int);((0<=q0/\q0<q2)/\((0<=q1/\q1<q2)/\((0<=q1/\q1<q2)/\(0<=q0/\q0< ((x4.set (Int.toNat q1) (x4.getD (Int.toNat q0) default)).length:Int)))))
def br (a:Int)(b:Int)(n:Int)(l_:List bn):List bn:=(match aj (cr a b n) (Int.toNat n) 0 l_ with| .inl x=>x.elim| .inr x4=>x4)
def be (a:Int)(b:Int)(n:Int)(l_:List bn):Prop:=((n<9223372036854775808)/\okI (cr a b n) (cV a b n) (Int.toNat n) 0 l_)
noncomputable def iU:List SV->List Ob->Option aoJ:=jf (λx_:Int×Int×Int×(List bn) =>[.os 0,.v (.int .i64 x_.1),.v (.int .i64 x_.2.1),.v (.int .i64 x_.2.2.1),.fn 284 [] []]) (λx_=>[.row .B1 x_.2.2.2]) (λx_=>fK (be x_.1 x_.2.1 x_.2.2.1 x_.2.2.2) (.tup []) [.row .B1 (br x_.1 x_.2.1 x_.2.2.1 x_.2.2.2)])
@[go_sem]def xT (a:Int)(b:Int)(n:Int)(l_:List bn):iU ([.os 0,.v (.int .i64 a),.v (.int .i64 b),.v (.int .i64 n),.fn 284 [] []]) ([.row .B1 l_])=some (fK (be a b n l_) (.tup []) [.row .B1 (br a b n l_)]):=fL (A:=λx_:Int×Int×Int×(List bn) =>[.os 0,.v (.int .i64 x_.1),.v (.int .i64 x_.2.1),.v (.int .i64 x_.2.2.1),.fn 284 [] []]) (H:=λx_=>[.row .B1 x_.2.2.2]) (K:=λx_=>fK (be x_.1 x_.2.1 x_.2.2.1 x_.2.2.2) (.tup []) [.row .B1 (br x_.1 x_.2.1 x_.2.2.1 x_.2.2.2)]) (x:=(a,b,n,l_))
def nc:aoH Tryz.prog 349 (iU):=by
 have hG:=mG W2 W2;refine fR hG Tryz.f349 (λl o con h=>?_);obtain⟨⟨a,b,n,Y⟩,rfl,rfl,rfl⟩:=dV h;clear h;try dsimp only
 refine⟨_,_,_,rfl,λX=>?_⟩;unfold be at X;refine⟨nbl rfl,(λid st=>bif Nat.beq id 0 then some (LCR (ρ:=Empty) (σ:=(List bn)) 1 [] [0] (λO E=>⟨[(0,.os 0),(1,.v (.int .i64 a)),(2,.v (.int .i64 b)),(3,.v (.int .i64 n)),(10,.v (.int .i64 (O:Int)))],[.row .B1 E]⟩) (cr a b n) (cV a b n) (Int.toNat n) Y (n<9223372036854775808) ((·.elim)) ((·.elim)) st)else none),?_,?_⟩;unfold ae Tryz.f349;simp only[ak,true_and,and_true,and_assoc];refine b_ mixed aJ hG kr (λ_=>rfl) n rfl id (λhb0 O E W V hw hc=>⟨L0,ag _,?_⟩) (λhb0 E hc=>?_);unfold cV at V;try simp only[hw,ak1]at V
 exact bE (jl [0]);exact bF (jl [0]);unfold ae Tryz.f349;try unfold br
 exact db (jl [0])
@[go_sem] def cW (a:Int)(m:Int)(b:Int)(k_0:Nat)(x4:List bn×Int×Int):(Int×List bn)⊕(List bn×Int×Int):=letI q0:=i64.wrap (m - x4.2.1);(bif(x4.2.1 !=x4.2.2)then(bif(decide (x4.2.1 > x4.2.2))then .inr ((br q0 m x4.2.2 x4.1),(i64.wrap (x4.2.1 - x4.2.2)),x4.2.2)else .inr ((br q0 (i64.wrap ((i64.wrap (m+x4.2.2)) - x4.2.1)) x4.2.1 x4.1),x4.2.1,(i64.wrap (x4.2.2 - x4.2.1))))else .inl (x4.2.1,x4.1))
def dq (a:Int)(m:Int)(b:Int)(k_0:Nat)(x4:List bn×Int×Int):Prop:=letI q0:=i64.wrap (m - x4.2.1);letI q1:=decide (x4.2.1 > x4.2.2);((x4.2.1 !=x4.2.2)=true->((q1=true->(be q0 m x4.2.2 x4.1))/\(q1=false->(be q0 (i64.wrap ((i64.wrap (m+x4.2.2)) - x4.2.1)) x4.2.1 x4.1))))
def aK (a:Int)(m:Int)(b:Int)(l_:List bn):List bn:=(match aj (cW a m b) (Int.toNat (b - a)+1) 0 (l_,(i64.wrap (m - a)),(i64.wrap (b - m)))with| .inl u0=>(br (i64.wrap (m - u0.1)) m u0.1 u0.2) | .inr x4=>default)
def bR (a:Int)(m:Int)(b:Int)(l_:List bn):Prop:=letI q0:=(l_,(i64.wrap (m - a)),(i64.wrap (b - m)));letI q1:=cW a m b;letI q2:=Int.toNat (b - a)+1;(okI q1 (dq a m b) q2 0 q0/\(∀ z_,aj q1 q2 0 q0≠ .inr z_)/\(∀ u0,aj q1 q2 0 q0=.inl u0->(be (i64.wrap (m - u0.1)) m u0.1 u0.2)))
noncomputable def jP:List SV->List Ob->Option aoJ:=jf (λx_:Int×Int×Int×(List bn) =>[.os 0,.v (.int .i64 x_.1),.v (.int .i64 x_.2.1),.v (.int .i64 x_.2.2.1),.fn 284 [] []]) (λx_=>[.row .B1 x_.2.2.2]) (λx_=>fK (bR x_.1 x_.2.1 x_.2.2.1 x_.2.2.2) (.tup []) [.row .B1 (aK x_.1 x_.2.1 x_.2.2.1 x_.2.2.2)])
@[go_sem]def zn (a:Int)(m:Int)(b:Int)(l_:List bn):jP ([.os 0,.v (.int .i64 a),.v (.int .i64 m),.v (.int .i64 b),.fn 284 [] []]) ([.row .B1 l_])=some (fK (bR a m b l_) (.tup []) [.row .B1 (aK a m b l_)]):=fL (A:=λx_:Int×Int×Int×(List bn) =>[.os 0,.v (.int .i64 x_.1),.v (.int .i64 x_.2.1),.v (.int .i64 x_.2.2.1),.fn 284 [] []]) (H:=λx_=>[.row .B1 x_.2.2.2]) (K:=λx_=>fK (bR x_.1 x_.2.1 x_.2.2.1 x_.2.2.2) (.tup []) [.row .B1 (aK x_.1 x_.2.1 x_.2.2.1 x_.2.2.2)]) (x:=(a,m,b,l_))
def oJ:aoH Tryz.prog 345 (jP):=by
 have hG:=mG W2 (co nc W2);refine fR hG Tryz.f345 (λl o con h=>?_);obtain⟨⟨a,m,b,Y⟩,rfl,rfl,rfl⟩:=dV h;clear h;try dsimp only
 refine⟨_,_,_,rfl,λX=>?_⟩;unfold bR at X;refine⟨nbl rfl,(λid st=>bif Nat.beq id 0 then some (LCV (ρ:=(Int×List bn)) (σ:=(List bn×Int×Int)) 1 [] [0] (λV O=>⟨[(0,.os 0),(2,.v (.int .i64 m)),(4,.fn 284 [] []),(10,.v (.int .i64 O.2.1)),(11,.v (.int .i64 O.2.2))],[.row .B1 O.1]⟩) (cW a m b) (dq a m b) (Int.toNat (b - a)+1) (Y,(i64.wrap (m - a)),(i64.wrap (b - m))) (λ_=>.normal) (λE=>⟨[(0,.os 0),(2,.v (.int .i64 m)),(4,.fn 284 [] []),(10,.v (.int .i64 E.1))],[.row .B1 E.2]⟩) st)else none),?_,?_⟩;unfold ae Tryz.f345;simp only[ak,true_and,and_true,and_assoc];refine eW mixed aJ hG kr (λ_=>rfl) λV O W=>⟨L0,ag _,?_⟩;unfold dq at W;exact db (jl [0]);unfold ae Tryz.f345;try unfold aK
 exact db (jl [0])
noncomputable def Px (apx:Int->Int->Int->List bn->List bn)(apk:Int->Int->Int->List bn->Prop):List SV->List Ob->Option aoJ:=jf (λx_:Int×Int×Int×(List bn) =>[.os 0,.v (.int .i64 x_.1),.v (.int .i64 x_.2.1),.v (.int .i64 x_.2.2.1),.fn 284 [] []]) (λx_=>[.row .B1 x_.2.2.2]) (λx_=>fK (apk x_.1 x_.2.1 x_.2.2.1 x_.2.2.2) (.tup []) [.row .B1 (apx x_.1 x_.2.1 x_.2.2.1 x_.2.2.2)])
@[go_sem]def IX (apx:Int->Int->Int->List bn->List bn)(apk:Int->Int->Int->List bn->Prop)(a:Int)(m:Int)(b:Int)(l_:List bn):Px apx apk ([.os 0,.v (.int .i64 a),.v (.int .i64 m),.v (.int .i64 b),.fn 284 [] []]) ([.row .B1 l_])=some (fK (apk a m b l_) (.tup []) [.row .B1 (apx a m b l_)]):=fL (A:=λx_:Int×Int×Int×(List bn) =>[.os 0,.v (.int .i64 x_.1),.v (.int .i64 x_.2.1),.v (.int .i64 x_.2.2.1),.fn 284 [] []]) (H:=λx_=>[.row .B1 x_.2.2.2]) (K:=λx_=>fK (apk x_.1 x_.2.1 x_.2.2.1 x_.2.2.2) (.tup []) [.row .B1 (apx x_.1 x_.2.1 x_.2.2.1 x_.2.2.2)]) (x:=(a,m,b,l_))
@[go_sem] def rT (a:Int)(l_:List bn)(k_0:Nat)(x4:Int×Int):Int⊕(Int×Int):=letI q0:=i64.wrap (mu .u64 (u64.wrap (i64.wrap (x4.1+x4.2))) 1);(bif(decide (x4.1<x4.2))then(bif(decide ((dR (l_.getD (Int.toNat q0) default) (l_.getD (Int.toNat a) default)) <0))then .inr ((i64.wrap (q0+1)),x4.2)else .inr (x4.1,q0))else .inl x4.1)
def sd (a:Int)(l_:List bn)(k_0:Nat)(x4:Int×Int):Prop:=letI q0:=i64.wrap (mu .u64 (u64.wrap (i64.wrap (x4.1+x4.2))) 1);((decide (x4.1<x4.2))=true->((0<=q0/\q0< (l_.length:Int))/\(0<=a/\a< (l_.length:Int))))
@[go_sem] def vE (l_:List bn)(u0:Int)(k_1:Nat)(s_1:List bn×Int):(List bn)⊕(List bn×Int):=letI q0:=i64.wrap (s_1.2+1);(bif(decide (s_1.2< (i64.wrap (u0 - 1))))then .inr (((s_1.1.set (Int.toNat s_1.2) (s_1.1.getD (Int.toNat q0) default)).set (Int.toNat q0) (s_1.1.getD (Int.toNat s_1.2) default)),q0)else .inl s_1.1)
def uO (l_:List bn)(u0:Int)(k_1:Nat)(s_1:List bn×Int):Prop:=letI q0:=i64.wrap (s_1.2+1);letI q2:=(s_1.1.length:Int);letI q1:=0<=s_1.2/\s_1.2<q2;((decide (s_1.2< (i64.wrap (u0 - 1))))=true->((0<=q0/\q0<q2)/\(q1/\(q1/\(0<=q0/\q0< ((s_1.1.set (Int.toNat s_1.2) (s_1.1.getD (Int.toNat q0) default)).length:Int))))))
@[go_sem] def rU (m:Int)(l_:List bn)(k_2:Nat)(s_2:Int×Int):Int⊕(Int×Int):=letI q0:=i64.wrap (mu .u64 (u64.wrap (i64.wrap (s_2.1+s_2.2))) 1);(bif(decide (s_2.1<s_2.2))then(bif(!(decide ((dR (l_.getD (Int.toNat m) default) (l_.getD (Int.toNat q0) default)) <0)))then .inr ((i64.wrap (q0+1)),s_2.2)else .inr (s_2.1,q0))else .inl s_2.1)
def se (m:Int)(l_:List bn)(k_2:Nat)(s_2:Int×Int):Prop:=letI q0:=i64.wrap (mu .u64 (u64.wrap (i64.wrap (s_2.1+s_2.2))) 1);((decide (s_2.1<s_2.2))=true->((0<=m/\m< (l_.length:Int))/\(0<=q0/\q0< (l_.length:Int))))
@[go_sem] def vF (l_:List bn)(ao6:Int)(k_3:Nat)(s_3:List bn×Int):(List bn)⊕(List bn×Int):=letI q0:=i64.wrap (s_3.2 - 1);(bif(decide (s_3.2 > ao6))then .inr (((s_3.1.set (Int.toNat s_3.2) (s_3.1.getD (Int.toNat q0) default)).set (Int.toNat q0) (s_3.1.getD (Int.toNat s_3.2) default)),q0)else .inl s_3.1)
def uP (l_:List bn)(ao6:Int)(k_3:Nat)(s_3:List bn×Int):Prop:=letI q0:=i64.wrap (s_3.2 - 1);letI q2:=(s_3.1.length:Int);letI q1:=0<=s_3.2/\s_3.2<q2;((decide (s_3.2 > ao6))=true->((0<=q0/\q0<q2)/\(q1/\(q1/\(0<=q0/\q0< ((s_3.1.set (Int.toNat s_3.2) (s_3.1.getD (Int.toNat q0) default)).length:Int))))))
@[go_sem] def xU (a:Int)(m:Int)(b:Int)(l_:List bn)(k_4:Nat)(s_4:Int×Int):Int⊕(Int×Int):=letI q0:=i64.wrap (mu .u64 (u64.wrap (i64.wrap (s_4.1+s_4.2))) 1);(bif(decide (s_4.1<s_4.2))then(bif(!(decide ((dR (l_.getD (Int.toNat (i64.wrap ((i64.wrap ((i64.wrap ((i64.wrap (mu .u64 (u64.wrap (i64.wrap (a+b))) 1))+m)) - 1)) - q0))) default) (l_.getD (Int.toNat q0) default)) <0)))then .inr ((i64.wrap (q0+1)),s_4.2)else .inr (s_4.1,q0))else .inl s_4.1)
def sf (a:Int)(m:Int)(b:Int)(l_:List bn)(k_4:Nat)(s_4:Int×Int):Prop:=letI q0:=i64.wrap (mu .u64 (u64.wrap (i64.wrap (s_4.1+s_4.2))) 1);letI q1:=i64.wrap ((i64.wrap ((i64.wrap ((i64.wrap (mu .u64 (u64.wrap (i64.wrap (a+b))) 1))+m)) - 1)) - q0);((decide (s_4.1<s_4.2))=true->((0<=q1/\q1< (l_.length:Int))/\(0<=q0/\q0< (l_.length:Int))))
def Kx (apx:Int->Int->Int->List bn->List bn)(apk:Int->Int->Int->List bn->Prop)(a:Int)(m:Int)(b:Int)(l_:List bn):List bn:=letI q0:=i64.wrap (mu .u64 (u64.wrap (i64.wrap (a+b))) 1);letI q1:=i64.wrap (q0+m);letI q2:=l_.length+1;(bif((i64.wrap (m - a)) ==1)then(match aj (rT a l_) q2 0 (m,b)with| .inl u0=>(match aj (vE l_ u0) q2 0 (l_,a)with| .inl ape=>ape| .inr s_1=>default) | .inr x4=>default)else(bif((i64.wrap (b - m)) ==1)then(match aj (rU m l_) q2 0 (a,m)with| .inl ao6=>(match aj (vF l_ ao6) q2 0 (l_,m)with| .inl apZ=>apZ| .inr s_3=>default) | .inr s_2=>default)else(match aj (xU a m b l_) q2 0 ((bif(decide (m > q0))then(i64.wrap (q1 - b))else a),(bif(decide (m > q0))then q0 else m))with| .inl aoy=>(bif((decide (aoy<m))&&(decide (m< (i64.wrap (q1 - aoy)))))then(bif((decide (a<aoy))&&(decide (aoy<q0)))then(bif((decide (q0< (i64.wrap (q1 - aoy))))&&(decide ((i64.wrap (q1 - aoy)) <b)))then(apx q0 (i64.wrap (q1 - aoy)) b (apx a aoy q0 (aK aoy m (i64.wrap (q1 - aoy)) l_)))else(apx a aoy q0 (aK aoy m (i64.wrap (q1 - aoy)) l_)))else(bif((decide (q0< (i64.wrap (q1 - aoy))))&&(decide ((i64.wrap (q1 - aoy)) <b)))then(apx q0 (i64.wrap (q1 - aoy)) b (aK aoy m (i64.wrap (q1 - aoy)) l_))else(aK aoy m (i64.wrap (q1 - aoy)) l_)))else(bif((decide (a<aoy))&&(decide (aoy<q0)))then(bif((decide (q0< (i64.wrap (q1 - aoy))))&&(decide ((i64.wrap (q1 - aoy)) <b)))then(apx q0 (i64.wrap (q1 - aoy)) b (apx a aoy q0 l_))else(apx a aoy q0 l_))else(bif((decide (q0< (i64.wrap (q1 - aoy))))&&(decide ((i64.wrap (q1 - aoy)) <b)))then(apx q0 (i64.wrap (q1 - aoy)) b l_)else l_))) | .inr s_4=>default)))
def vG (apx:Int->Int->Int->List bn->List bn)(apk:Int->Int->Int->List bn->Prop)(a:Int)(m:Int)(b:Int)(l_:List bn):Prop:=letI q0:=i64.wrap (mu .u64 (u64.wrap (i64.wrap (a+b))) 1);letI q1:=i64.wrap (q0+m);letI q2:=((bif(decide (m > q0))then(i64.wrap (q1 - b))else a),(bif(decide (m > q0))then q0 else m));letI q3:=l_.length+1;letI q4:=xU a m b l_;letI q5:=(i64.wrap (m - a)) ==1;letI q6:=(i64.wrap (b - m)) ==1;letI q7:=rT a l_;letI q8:=rU m l_;((q5=true->(okI q7 (sd a l_) q3 0 (m,b)/\(∀ z_,aj q7 q3 0 (m,b)≠ .inr z_)/\(∀ u0,aj q7 q3 0 (m,b)=.inl u0->(okI (vE l_ u0) (uO l_ u0) q3 0 (l_,a)/\(∀ z_,aj (vE l_ u0) q3 0 (l_,a)≠ .inr z_)))))/\(q5=false->((q6=true->(okI q8 (se m l_) q3 0 (a,m)/\(∀ z_,aj q8 q3 0 (a,m)≠ .inr z_)/\(∀ ao6,aj q8 q3 0 (a,m)=.inl ao6->(okI (vF l_ ao6) (uP l_ ao6) q3 0 (l_,m)/\(∀ z_,aj (vF l_ ao6) q3 0 (l_,m)≠ .inr z_)))))/\(q6=false->(okI q4 (sf a m b l_) q3 0 q2/\(∀ z_,aj q4 q3 0 q2≠ .inr z_)/\(∀ aoy,aj q4 q3 0 q2=.inl aoy->((((decide (aoy<m))&&(decide (m< (i64.wrap (q1 - aoy)))))=true->((bR aoy m (i64.wrap (q1 - aoy)) l_)/\((((decide (a<aoy))&&(decide (aoy<q0)))=true->((apk a aoy q0 (aK aoy m (i64.wrap (q1 - aoy)) l_))/\(((decide (q0< (i64.wrap (q1 - aoy))))&&(decide ((i64.wrap (q1 - aoy)) <b)))=true->(apk q0 (i64.wrap (q1 - aoy)) b (apx a aoy q0 (aK aoy m (i64.wrap (q1 - aoy)) l_))))))/\(((decide (a<aoy))&&(decide (aoy<q0)))=false->(((decide (q0< (i64.wrap (q1 - aoy))))&&(decide ((i64.wrap (q1 - aoy)) <b)))=true->(apk q0 (i64.wrap (q1 - aoy)) b (aK aoy m (i64.wrap (q1 - aoy)) l_)))))))/\(((decide (aoy<m))&&(decide (m< (i64.wrap (q1 - aoy)))))=false->((((decide (a<aoy))&&(decide (aoy<q0)))=true->((apk a aoy q0 l_)/\(((decide (q0< (i64.wrap (q1 - aoy))))&&(decide ((i64.wrap (q1 - aoy)) <b)))=true->(apk q0 (i64.wrap (q1 - aoy)) b (apx a aoy q0 l_)))))/\(((decide (a<aoy))&&(decide (aoy<q0)))=false->(((decide (q0< (i64.wrap (q1 - aoy))))&&(decide ((i64.wrap (q1 - aoy)) <b)))=true->(apk q0 (i64.wrap (q1 - aoy)) b l_))))))))))))
noncomputable def acM (apx:Int->Int->Int->List bn->List bn)(apk:Int->Int->Int->List bn->Prop):List SV->List Ob->Option aoJ:=jf (λx_:Int×Int×Int×(List bn) =>[.os 0,.v (.int .i64 x_.1),.v (.int .i64 x_.2.1),.v (.int .i64 x_.2.2.1),.fn 284 [] []]) (λx_=>[.row .B1 x_.2.2.2]) (λx_=>fK (vG apx apk x_.1 x_.2.1 x_.2.2.1 x_.2.2.2) (.tup []) [.row .B1 (Kx apx apk x_.1 x_.2.1 x_.2.2.1 x_.2.2.2)])
def YQ (V:Int->Int->Int->List bn->List bn)(O:Int->Int->Int->List bn->Prop)(hr:aoH Tryz.prog 339 (Px V O)):aoH Tryz.prog 339 (acM V O):=by
 have hG:=mG (cn [.st .B1,.st .B1] oI W2) (co hr (co oJ W2));refine fR hG Tryz.f339 (λl o con h=>?_);obtain⟨⟨a,m,b,E⟩,rfl,rfl,rfl⟩:=dV h;clear h;try dsimp only
 refine⟨_,_,_,rfl,λhp=>?_⟩;unfold vG at hp;refine⟨nbl rfl,(λid st=>bif Nat.beq id 0 then some (LCV (ρ:=Int) (σ:=(Int×Int)) 1 [] [0] (λk_0 x4=>⟨[(0,.os 0),(1,.v (.int .i64 a)),(4,.fn 284 [] []),(10,.v (.int .i64 x4.1)),(11,.v (.int .i64 x4.2))],[.row .B1 E]⟩) (rT a E) (sd a E) (E.length+1) (m,b) (λ_=>.normal) (λu0=>⟨[(0,.os 0),(1,.v (.int .i64 a)),(10,.v (.int .i64 u0))],[.row .B1 E]⟩) st)else bif Nat.beq id 2 then some (LCV (ρ:=(List bn)) (σ:=(List bn×Int)) 1 [] [0] (λk_1 Y=>⟨[(0,.os 0),(10,.v (.int .i64 (ei (aj (rT a E) (E.length+1) 0 (m,b))))),(13,.v (.int .i64 Y.2))],[.row .B1 Y.1]⟩) (vE E (ei (aj (rT a E) (E.length+1) 0 (m,b)))) (uO E (ei (aj (rT a E) (E.length+1) 0 (m,b)))) (E.length+1) (E,a) (λ_=>.normal) (λX=>⟨[],[.row .B1 X]⟩) st)else bif Nat.beq id 4 then some (LCV (ρ:=Int) (σ:=(Int×Int)) 1 [] [0] (λk_2 s_2=>⟨[(0,.os 0),(2,.v (.int .i64 m)),(4,.fn 284 [] []),(14,.v (.int .i64 s_2.1)),(15,.v (.int .i64 s_2.2))],[.row .B1 E]⟩) (rU m E) (se m E) (E.length+1) (a,m) (λ_=>.normal) (λao6=>⟨[(0,.os 0),(2,.v (.int .i64 m)),(14,.v (.int .i64 ao6))],[.row .B1 E]⟩) st)else bif Nat.beq id 6 then some (LCV (ρ:=(List bn)) (σ:=(List bn×Int)) 1 [] [0] (λk_3 W=>⟨[(0,.os 0),(14,.v (.int .i64 (ei (aj (rU m E) (E.length+1) 0 (a,m))))),(17,.v (.int .i64 W.2))],[.row .B1 W.1]⟩) (vF E (ei (aj (rU m E) (E.length+1) 0 (a,m)))) (uP E (ei (aj (rU m E) (E.length+1) 0 (a,m)))) (E.length+1) (E,m) (λ_=>.normal) (λapZ=>⟨[],[.row .B1 apZ]⟩) st)else bif Nat.beq id 1000140 then some (JC (⟨[(0,.os 0),(1,.v (.int .i64 a)),(2,.v (.int .i64 m)),(3,.v (.int .i64 b)),(4,.fn 284 [] []),(18,.v (.int .i64 (i64.wrap (mu .u64 (u64.wrap (i64.wrap (a+b))) 1)))),(19,.v (.int .i64 (i64.wrap ((i64.wrap (mu .u64 (u64.wrap (i64.wrap (a+b))) 1))+m)))),(20,.v (.int .i64 (bif(decide (m > (i64.wrap (mu .u64 (u64.wrap (i64.wrap (a+b))) 1))))then(i64.wrap ((i64.wrap ((i64.wrap (mu .u64 (u64.wrap (i64.wrap (a+b))) 1))+m)) - b))else a))),(21,.v (.int .i64 (bif(decide (m > (i64.wrap (mu .u64 (u64.wrap (i64.wrap (a+b))) 1))))then(i64.wrap (mu .u64 (u64.wrap (i64.wrap (a+b))) 1))else m)))],[.row .B1 E]⟩))else bif Nat.beq id 8 then some (LCV (ρ:=Int) (σ:=(Int×Int)) 1 [] [0] (λk_4 s_4=>⟨[(0,.os 0),(1,.v (.int .i64 a)),(2,.v (.int .i64 m)),(3,.v (.int .i64 b)),(4,.fn 284 [] []),(18,.v (.int .i64 (i64.wrap (mu .u64 (u64.wrap (i64.wrap (a+b))) 1)))),(19,.v (.int .i64 (i64.wrap ((i64.wrap (mu .u64 (u64.wrap (i64.wrap (a+b))) 1))+m)))),(20,.v (.int .i64 s_4.1)),(21,.v (.int .i64 s_4.2)),(22,.v (.int .i64 (i64.wrap ((i64.wrap ((i64.wrap (mu .u64 (u64.wrap (i64.wrap (a+b))) 1))+m)) - 1))))],[.row .B1 E]⟩) (xU a m b E) (sf a m b E) (E.length+1) ((bif(decide (m > (i64.wrap (mu .u64 (u64.wrap (i64.wrap (a+b))) 1))))then(i64.wrap ((i64.wrap ((i64.wrap (mu .u64 (u64.wrap (i64.wrap (a+b))) 1))+m)) - b))else a),(bif(decide (m > (i64.wrap (mu .u64 (u64.wrap (i64.wrap (a+b))) 1))))then(i64.wrap (mu .u64 (u64.wrap (i64.wrap (a+b))) 1))else m)) (λ_=>.normal) (λaoy=>⟨[(0,.os 0),(1,.v (.int .i64 a)),(2,.v (.int .i64 m)),(3,.v (.int .i64 b)),(4,.fn 284 [] []),(18,.v (.int .i64 (i64.wrap (mu .u64 (u64.wrap (i64.wrap (a+b))) 1)))),(19,.v (.int .i64 (i64.wrap ((i64.wrap (mu .u64 (u64.wrap (i64.wrap (a+b))) 1))+m)))),(20,.v (.int .i64 aoy))],[.row .B1 E]⟩) st)else none),?_,?_⟩;unfold ae Tryz.f339;simp only[ak,true_and,and_true,and_assoc];refine⟨?_,?_,?_,?_,?_⟩;refine eW mixed aJ hG kr (λ_=>rfl) λk_0 x4 hq0=>⟨L0,ag _,?_⟩;unfold sd at hq0;exact db (jl [0]);refine eW mixed aJ hG kr (λ_=>rfl) λk_1 Y hq1=>⟨L0,ag _,?_⟩;unfold uO at hq1;exact db (jl [0]);refine eW mixed aJ hG kr (λ_=>rfl) λk_2 s_2 hq2=>⟨L0,ag _,?_⟩;unfold se at hq2;exact db (jl [0]);refine eW mixed aJ hG kr (λ_=>rfl) λk_3 W hq3=>⟨L0,ag _,?_⟩;unfold uP at hq3;exact db (jl [0]);refine eW mixed aJ hG kr (λ_=>rfl) λk_4 s_4 hq4=>⟨L0,ag _,?_⟩;unfold sf at hq4;exact db (jl [0]);unfold ae Tryz.f339;try unfold Kx
 exact db (jl [0])
def qi:Nat->(Int->Int->Int->List bn->List bn)×(Int->Int->Int->List bn->Prop)
 |0=>(λ_ _ _ l=>l,λ_ _ _ _=>False)
 |n+1=>(Kx (qi n).1 (qi n).2,vG (qi n).1 (qi n).2)
def Py:∀ n,aoH Tryz.prog 339 (Px (qi n).1 (qi n).2)
 |0=>by
  have hG:aot Tryz.prog (mkG [] []):=oA W2 W2;refine MG mixed aJ hG (fn:=Tryz.f339) (c:=ae Tryz.f339) kr kr kr kr λl o O h=>?_;obtain⟨⟨a,m,b,V⟩,rfl,rfl,rfl⟩:=dV h;exact⟨_,_,_,rfl,λE=>E.elim⟩
 |n+1=>YQ _ _ (Py n)
def df (a:Int)(m:Int)(b:Int)(l_:List bn):List bn:=(qi (l_.length+1)).1 a m b l_
def cN (a:Int)(m:Int)(b:Int)(l_:List bn):Prop:=(qi (l_.length+1)).2 a m b l_
noncomputable def i_:List SV->List Ob->Option aoJ:=jf (λx_:Int×Int×Int×(List bn) =>[.os 0,.v (.int .i64 x_.1),.v (.int .i64 x_.2.1),.v (.int .i64 x_.2.2.1),.fn 284 [] []]) (λx_=>[.row .B1 x_.2.2.2]) (λx_=>fK (cN x_.1 x_.2.1 x_.2.2.1 x_.2.2.2) (.tup []) [.row .B1 (df x_.1 x_.2.1 x_.2.2.1 x_.2.2.2)])
@[go_sem]def yo (a:Int)(m:Int)(b:Int)(l_:List bn):i_ ([.os 0,.v (.int .i64 a),.v (.int .i64 m),.v (.int .i64 b),.fn 284 [] []]) ([.row .B1 l_])=some (fK (cN a m b l_) (.tup []) [.row .B1 (df a m b l_)]):=fL (A:=λx_:Int×Int×Int×(List bn) =>[.os 0,.v (.int .i64 x_.1),.v (.int .i64 x_.2.1),.v (.int .i64 x_.2.2.1),.fn 284 [] []]) (H:=λx_=>[.row .B1 x_.2.2.2]) (K:=λx_=>fK (cN x_.1 x_.2.1 x_.2.2.1 x_.2.2.2) (.tup []) [.row .B1 (df x_.1 x_.2.1 x_.2.2.1 x_.2.2.2)]) (x:=(a,m,b,l_))
def nR:aoH Tryz.prog 339 i_ where
 enter:=λl h c e=>by
  obtain⟨⟨a,m,b,E⟩,rfl,rfl,rfl⟩:=dV e;exact(Py (E.length+1)).enter _ _ _ (IX _ _ a m b E)
 calls:=λl h c e O=>by
  obtain⟨⟨a,m,b,E⟩,rfl,rfl,rfl⟩:=dV e;exact(Py (E.length+1)).calls _ _ _ (IX _ _ a m b E) O
@[go_sem] def bP (n:Int)(k_0:Nat)(x4:List bn×Int×Int):(Int×List bn)⊕(List bn×Int×Int):=(bif(decide (x4.2.2<=n))then .inr ((aM x4.2.1 x4.2.2 x4.1),x4.2.2,(i64.wrap (x4.2.2+20)))else .inl (x4.2.1,x4.1))
def du (n:Int)(k_0:Nat)(x4:List bn×Int×Int):Prop:=((decide (x4.2.2<=n))=true->(bb x4.2.1 x4.2.2 x4.1))
@[go_sem] def cX (n:Int)(s_1:List bn×Int)(k_2:Nat)(s_2:List bn×Int×Int):(Int×List bn)⊕(List bn×Int×Int):=(bif(decide (s_2.2.2<=n))then .inr ((df s_2.2.1 (i64.wrap (s_2.2.1+s_1.2)) s_2.2.2 s_2.1),s_2.2.2,(i64.wrap (s_2.2.2+(i64.wrap (2*s_1.2)))))else .inl (s_2.2.1,s_2.1))
def dv (n:Int)(s_1:List bn×Int)(k_2:Nat)(s_2:List bn×Int×Int):Prop:=((decide (s_2.2.2<=n))=true->(cN s_2.2.1 (i64.wrap (s_2.2.1+s_1.2)) s_2.2.2 s_2.1))
@[go_sem] def ca (n:Int)(k_1:Nat)(s_1:List bn×Int):(List bn)⊕(List bn×Int):=letI q0:=i64.wrap (s_1.2*2);(bif(decide (s_1.2<n))then(match aj (cX n s_1) (Int.toNat n+1) 0 (s_1.1,0,(i64.wrap (2*s_1.2)))with| .inl ao6=>(bif(decide ((i64.wrap (ao6.1+s_1.2)) <n))then .inr ((df ao6.1 (i64.wrap (ao6.1+s_1.2)) n ao6.2),q0)else .inr (ao6.2,q0)) | .inr s_2=>.inr default)else .inl s_1.1)
def cF (n:Int)(k_1:Nat)(s_1:List bn×Int):Prop:=letI q0:=(s_1.1,0,(i64.wrap (2*s_1.2)));letI q1:=cX n s_1;letI q2:=Int.toNat n+1;((decide (s_1.2<n))=true->(okI q1 (dv n s_1) q2 0 q0/\(∀ z_,aj q1 q2 0 q0≠ .inr z_)/\(∀ ao6,aj q1 q2 0 q0=.inl ao6->((decide ((i64.wrap (ao6.1+s_1.2)) <n))=true->(cN ao6.1 (i64.wrap (ao6.1+s_1.2)) n ao6.2)))))
def cP (n:Int)(l_:List bn):List bn:=(match aj (bP n) (Int.toNat n+1) 0 (l_,0,20)with| .inl u0=>(match aj (ca n) (Int.toNat n+1) 0 ((aM u0.1 n u0.2),20)with| .inl ape=>ape| .inr s_1=>default) | .inr x4=>default)
def cq (n:Int)(l_:List bn):Prop:=letI q0:=bP n;letI q1:=Int.toNat n+1;letI q2:=ca n;letI q3:=(l_,0,20);(okI q0 (du n) q1 0 q3/\(∀ z_,aj q0 q1 0 q3≠ .inr z_)/\(∀ u0,aj q0 q1 0 q3=.inl u0->((bb u0.1 n u0.2)/\(okI q2 (cF n) q1 0 ((aM u0.1 n u0.2),20)/\(∀ z_,aj q2 q1 0 ((aM u0.1 n u0.2),20)≠ .inr z_)))))
noncomputable def jQ:List SV->List Ob->Option aoJ:=jf (λx_:Int×(List bn) =>[.os 0,.v (.int .i64 x_.1),.fn 284 [] []]) (λx_=>[.row .B1 x_.2]) (λx_=>fK (cq x_.1 x_.2) (.tup []) [.row .B1 (cP x_.1 x_.2)])
@[go_sem]def zo (n:Int)(l_:List bn):jQ ([.os 0,.v (.int .i64 n),.fn 284 [] []]) ([.row .B1 l_])=some (fK (cq n l_) (.tup []) [.row .B1 (cP n l_)]):=fL (A:=λx_:Int×(List bn) =>[.os 0,.v (.int .i64 x_.1),.fn 284 [] []]) (H:=λx_=>[.row .B1 x_.2]) (K:=λx_=>fK (cq x_.1 x_.2) (.tup []) [.row .B1 (cP x_.1 x_.2)]) (x:=(n,l_))
def oK:aoH Tryz.prog 317 (jQ):=by
 have hG:=mG W2 (co lC (co nR W2));refine fR hG Tryz.f317 (λl o con h=>?_);obtain⟨⟨n,l_⟩,rfl,rfl,rfl⟩:=dV h;clear h;try dsimp only
 refine⟨_,_,_,rfl,λhp=>?_⟩;unfold cq at hp;refine⟨nbl rfl,(λid st=>bif Nat.beq id 0 then some (LCV (ρ:=(Int×List bn)) (σ:=(List bn×Int×Int)) 1 [] [0] (λk_0 W=>⟨[(0,.os 0),(1,.v (.int .i64 n)),(2,.fn 284 [] []),(6,.v (.int .i64 20)),(7,.v (.int .i64 W.2.1)),(8,.v (.int .i64 W.2.2))],[.row .B1 W.1]⟩) (bP n) (du n) (Int.toNat n+1) (l_,0,20) (λ_=>.normal) (λO=>⟨[(0,.os 0),(1,.v (.int .i64 n)),(2,.fn 284 [] []),(6,.v (.int .i64 20)),(7,.v (.int .i64 O.1))],[.row .B1 O.2]⟩) st)else bif Nat.beq id 2 then some (LCV (ρ:=(List bn)) (σ:=(List bn×Int)) 1 [] [0] (λk_1 E=>⟨[(0,.os 0),(1,.v (.int .i64 n)),(2,.fn 284 [] []),(6,.v (.int .i64 E.2))],[.row .B1 E.1]⟩) (ca n) (cF n) (Int.toNat n+1) ((aM (ei (aj (bP n) (Int.toNat n+1) 0 (l_,0,20))).1 n (ei (aj (bP n) (Int.toNat n+1) 0 (l_,0,20))).2),20) (λ_=>.normal) (λY=>⟨[],[.row .B1 Y]⟩) st)else none),?_,?_⟩;unfold ae Tryz.f317;simp only[ak,true_and,and_true,and_assoc];refine⟨?_,?_⟩;refine eW mixed aJ hG kr (λ_=>rfl) λk_0 W hq0=>⟨L0,ag _,?_⟩;unfold du at hq0;exact db (jl [0]);refine eW mixed aJ hG kr (λ_=>rfl) λk_1 E hq1=>⟨(λid st=>bif Nat.beq id 4 then some (LCV (ρ:=(Int×List bn)) (σ:=(List bn×Int×Int)) 1 [] [0] (λk_2 X=>⟨[(0,.os 0),(1,.v (.int .i64 n)),(2,.fn 284 [] []),(6,.v (.int .i64 E.2)),(7,.v (.int .i64 X.2.1)),(8,.v (.int .i64 X.2.2))],[.row .B1 X.1]⟩) (cX n E) (dv n E) (Int.toNat n+1) (E.1,0,(i64.wrap (2*E.2))) (λ_=>.normal) (λV=>⟨[(0,.os 0),(1,.v (.int .i64 n)),(2,.fn 284 [] []),(6,.v (.int .i64 E.2)),(7,.v (.int .i64 V.1))],[.row .B1 V.2]⟩) st)else none),?_,?_⟩;simp only[ak,true_and,and_true];refine eW mixed aJ hG kr (λ_=>rfl) λk_2 X hq2=>⟨L0,ag _,?_⟩;unfold dv at hq2;exact db (jl [0]);unfold cF at hq1;exact db (jl [0]);unfold ae Tryz.f317;try unfold cP
 exact db (jl [0])
def bW (l_:List bn):List bn:=(cP (l_.length:Int) l_)
def bO (l_:List bn):Prop:=(l_.length<=aN->(cq (l_.length:Int) l_))
noncomputable def gj:List SV->List Ob->Option aoJ:=jf (λx_:(List bn) =>[.os 0,.fn 284 [] []]) (λx_=>[.row .B1 x_]) (λx_=>fK (bO x_) (.tup []) [.row .B1 (bW x_)])
@[go_sem]def uQ (l_:List bn):gj ([.os 0,.fn 284 [] []]) ([.row .B1 l_])=some (fK (bO l_) (.tup []) [.row .B1 (bW l_)]):=fL (A:=λx_:(List bn) =>[.os 0,.fn 284 [] []]) (H:=λx_=>[.row .B1 x_]) (K:=λx_=>fK (bO x_) (.tup []) [.row .B1 (bW x_)]) (x:=l_)
def ko:aoH Tryz.prog 283 (gj):=by
 have hG:=mG W2 (co oK W2);refine fR hG Tryz.f283 (λl o O h=>?_);obtain⟨V,rfl,rfl,rfl⟩:=dV h;clear h;try dsimp only
 refine⟨_,_,_,rfl,λE=>?_⟩;unfold bO at E;refine⟨nbl rfl,L0,?_,?_⟩;unfold ae Tryz.f283;simp only[ak,and_self,true_and,and_true];unfold ae Tryz.f283;try unfold bW
 exact db (jl [0])
def pj (l_:List bn):Unit:=()
noncomputable def jc:List SV->List Ob->Option aoJ:=jf (λx_:(List bn) =>[.os 0]) (λx_=>[.row .B1 x_]) (λx_=>fK True (.fn 318 [] [.ptr 1 0]) [.row .B1 x_,.cells [.os 0]])
@[go_sem]def yp (l_:List bn):jc ([.os 0]) ([.row .B1 l_])=some (fK True (.fn 318 [] [.ptr 1 0]) [.row .B1 l_,.cells [.os 0]]):=fL (A:=λx_:(List bn) =>[.os 0]) (H:=λx_=>[.row .B1 x_]) (K:=λx_=>fK True (.fn 318 [] [.ptr 1 0]) [.row .B1 x_,.cells [.os 0]]) (x:=l_)
def nS:aoH Tryz.prog 285 (jc):=by
 have hG:=mG W2 W2;refine fR hG Tryz.f285 (λl o E h=>?_);obtain⟨V,rfl,rfl,rfl⟩:=dV h;clear h;try dsimp only
 refine⟨_,_,_,rfl,λO=>?_⟩;refine⟨nbl rfl,L0,?_,?_⟩;unfold ae Tryz.f285;simp only[ak,and_self,true_and,and_true];unfold ae Tryz.f285;try unfold pj
 exact db (jl [0,1])
@[go_sem] def fM (l_:List bn)(known:Int)(k_0:Nat)(x4:List (Int×Bool)):Empty⊕(List (Int×Bool)):=(bif(((l_.getD k_0 default).kind==4)&&(decide ((l_.getD k_0 default).known<=known)))then .inr (cH .int .bool x4 ((l_.getD k_0 default).of_) true)else .inr x4)
def eO (l_:List bn)(hour:Int)(known:Int):List bn:=(match aj (fM l_ known) l_.length 0 ([])with| .inl x=>x.elim| .inr x4=>(bW (bw l_ known hour x4)))
def iv (l_:List bn)(hour:Int)(known:Int):Prop:=(l_.length<=aN->(∀ x4,aj (fM l_ known) l_.length 0 ([])=.inr x4->((l_.length*88<=d8)/\((bH l_ known hour x4)/\(bO (bw l_ known hour x4))))))
@[go_sem] def yq:List SV->Option Con:=(pR .B1 λl_=>(pI λhour=>(pI λknown=>(pE (.det (iv l_ hour known) (.fn 318 [] [.ep [.rs .B1 (eO l_ hour known)] 0]))))))
variable {p:Prop}
theorem arM(h:p:=by simp only[go_sem,sJ,sK];all_goals exact cl):p:=h
theorem xn:P1 Tryz.prog 230 yq:=by
 have hG:=mG (cn [.sl .B1] xm W2) (co lP (co ko (co nS W2)));refine fN hG Tryz.f230 [.o] (bM λE=>(aG λhour=>(aG λknown=>(am (λW=>?_)))));dsimp only[an]at W;unfold iv at W;refine⟨nbl rfl,(λid st=>bif Nat.beq id 0 then some (LCR (ρ:=Empty) (σ:=(List (Int×Bool))) 4 [] [0,1,2,3] (λV O=>⟨[(0,.rs .B1 E),(4,.ptr 0 0),(5,.ptr 1 0),(7,.ptr 3 0),(11,.rs .B1 E),(12,.v (.int .i64 (E.length:Int))),(13,.v (.int .i64 (V:Int)))],[.cells [.v (.int .i64 hour)],.cells [.v (.int .i64 known)],.mp .int .bool O none,.cells [.os 2]]⟩) (fM E known) pT E.length ([]) (E.length<=aN) ((·.elim)) ((·.elim)) st)else none),?_,?_⟩;unfold ae Tryz.f230;simp only[ak,true_and,and_true];refine b_ mixed aJ hG kr (λ_=>rfl) (E.length:Int) rfl fH (λhb0 V O X _ hw hc=>⟨L0,ag _,?_⟩) (λhb0 O hc=>?_);exact bE (jl [0,1,2,3]);exact bF (jl [0,1,2,3]);unfold ae Tryz.f230;try unfold eO
 exact arM
variable {l0:List Nat}
theorem FB(a0:JL l0)(h:JL l0->p:=by intro ja;(first|done|(repeat' (first|with_reducible refine And.intro ?_ ?_|((with_reducible show _≠_);first|assumption|omega|(simp_all [cy,ei];done) |grind) |with_reducible intro _)) <;>(first|done|with_reducible exact Empty.elim ‹Empty› |with_reducible assumption|rfl|omega|assumption|decide|exact fk ja|(refine Or.inr ?_;exact fkY ja) |(refine Or.inl ?_;exact fkY ja) |(refine Or.inl ⟨rfl,?_⟩;exact fkY ja) |(simp only[*,cond_true,cond_false,alj,als,go_sem];done) |(simp only[*,cond_true,cond_false,alj,als,go_sem];(repeat' (first|with_reducible refine And.intro ?_ ?_|((with_reducible show _≠_);first|assumption|omega|(simp_all [cy,ei];done) |grind) |with_reducible intro _)) <;>(first|done|assumption|rfl|omega|decide|exact fk ja|(refine Or.inr ?_;exact fkY ja) |(refine Or.inl ?_;exact fkY ja) |(refine Or.inl ⟨rfl,?_⟩;exact fkY ja) |(simp_all [cy,ei];done))) |(exfalso;rename_i h1 h2;rw[h1]at h2;cases h2) |(exfalso;rename_i h1 h2;simp only[h1,als,alj,anS,aoj,aml,amu,reduceCtorEq]at h2;done) |(exfalso;clear hy hG;simp_all;done) |(simp only[*,alP,forall_eq',true_implies,forall_const,reduceCtorEq,false_implies,and_true,ak9,ak5,alo,ak8,go_sem]at hq2;first|exact hq2.1|exact hq2.2.1|exact hq2|exact hq2.2|(simp only[hq2];done)) |(simp only[*,alP,forall_eq',true_implies,forall_const,reduceCtorEq,false_implies,and_true,ak9,ak5,alo,ak8,go_sem]at hq1;first|exact hq1.1|exact hq1.2.1|exact hq1|exact hq1.2|(simp only[hq1];done)) |(clear hy hG;simp_all only[cy,ei,alP,forall_eq',true_implies,forall_const,reduceCtorEq,false_implies,and_true,ak9,ak5,alo,ak8,go_sem];done) |(simp_all [okI,cy,ei];done) |(simp_all [cy,ei];(first|done|exact fk2 ja)) |exact fk2 ja))):p:=h a0
theorem oL(a0:JL l0)(h:JL l0->p:=by intro ja;simp only[go_sem,hc,hw];all_goals exact FB ja):p:=h a0
theorem oM(a0:JL l0)(h:JL l0->p:=by intro ja;simp only[go_sem,hc];all_goals exact FB ja):p:=h a0
@[go_sem] def CU (x:bn):List SV:=[.agg (cellsOf .B1 x)]
@[go_sem] def dc (l_:List bn)(k_0:Nat)(x4:List bn):Empty⊕(List bn):=.inr (x4++[(l_.getD k_0 default)])
def dH (l_:List bn)(aoM:List (List SV))(k_0:Nat)(x4:List bn):Prop:=(aoM[x4.length]? =some (CU (l_.getD k_0 default)))
def aZ (l_:List bn):List bn:=(match aj (dc l_) l_.length 0 ([]:List bn)with| .inl x=>x.elim| .inr x4=>x4)
def di (l_:List bn)(aoM:List (List SV)):Prop:=letI q0:=dc l_;(l_.length<=aN->(okI q0 (dH l_ aoM) l_.length 0 ([]:List bn)/\(∀ x4,aj q0 l_.length 0 ([]:List bn)=.inr x4->(aoM.length=x4.length))))
theorem M5(a0:JL l0)(h:JL l0->p:=by intro ja;simp only[go_sem];all_goals exact FB ja):p:=h a0
theorem mS (O:List bn)(E:List (List SV))(hp:di O E):Ak Tryz.prog 318 (λy=>[y,.ep [.rs .B1 O] 0]) [] E:=by
 unfold di at hp;refine BD mixed aJ (fn:=Tryz.f318) (c:=ae Tryz.f318) kr kr kr kr rfl (n:=0) rfl (G:=λY=>Al [] [] (Dg E Y)) (λY hy=>?_) (λargs w=>by kernel_rfl);have hG:=mGY W2 W2 hy;refine⟨hG,nbl rfl,(λid st=>bif Nat.beq id 0 then some (LCY (ρ:=Empty) (σ:=(List bn)) 1 [] [0] (λW V=>⟨[(0,.os 0),(5,.rs .B1 O),(6,.v (.int .i64 (O.length:Int))),(7,.v (.int .i64 (W:Int)))],[.ab (Y.1 (V.length+1))]⟩) (dc O) (dH O E) O.length ([]:List bn) (O.length<=aN) ((·.elim)) ((·.elim)) ⟨[],[.ab (Y.1 0)]⟩ st)else none),?_,?_⟩;unfold ae Tryz.f318;simp only[ak,true_and,and_true];refine sL mixed aJ hG kr (λ_=>rfl) (O.length:Int) rfl fH (λhb0 W V apq X hw hc=>⟨L0,ag _,?_⟩) (λhb0 V hc=>?_);unfold dH at X;try simp only[hw,ak1]at X
 exact oL (jl [0]);exact oM (jl [0]);unfold ae Tryz.f318;exact M5 (jl [0])
@[go_sem]def ajL {f:FuncId}:Bg (.fn f [] [])=some [.fn f [] []]:=(rfl)
theorem uR {κ υ:Type}[DecidableEq κ](l:List (κ×υ))(x z:κ)(y:υ):iy (tx l x y) z=if z=x then some y else iy l z:=by
 induction l with
 |nil=>simp[tx,iy]
 |cons a r O=>
  obtain⟨a,b⟩:=a;unfold tx;by_cases h:x=a
  subst h;simp only[if_pos];unfold iy;by_cases E:z=x <;>simp[E]
  rw[if_neg h];unfold iy;by_cases E:z=a
  subst E;rw[if_pos rfl,if_neg (λe=>h e.symm),if_pos rfl];rw[if_neg E,O,if_neg E]
def fY:List (Int×(Option Nat)):=(cH .int .fnc (cH .int .fnc (cH .int .fnc ([]) 1 (some 314)) 2 (some 315)) 3 (some 316))
@[go_sem] def BS:List SV->Option Con:=(pE (.det True (.nm .int .fnc (fY))))
theorem Aw:P1 Tryz.prog 279 BS:=by
 have hG:=mG W2 W2;refine fW hG Tryz.f279 [] (am (λE=>?_));dsimp only[an]at E;refine⟨nbl rfl,L0,ag _,?_⟩;unfold ae Tryz.f279;try unfold fY
 exact zq2
theorem uS (k:Int):aq .int .fnc fY k=bif k==1 then some 314 else bif k==2 then some 315 else bif k==3 then some 316 else none:=by
 by_cases h1:k=1
 subst h1;rfl;by_cases h2:k=2
 subst h2;rfl;by_cases E:k=3
 subst E;rfl;have O:(k==1)=false:=by simpa using h1
 have V:(k==2)=false:=by simpa using h2
 have W:(k==3)=false:=by simpa using E
 rw[O,V,W];simp only[fY,aq,cH,uR,if_neg h1,if_neg h2,if_neg E];rfl
def eZ (x:bn)(n:Int)(m_:List (A1×Int)):List (A1×Int):=(cH .pq .int m_ ({ right:=x.right,gl:=x.to}:A1) (i64.wrap ((aq .pq .int m_ ({ right:=x.right,gl:=x.to}:A1))+n)))
noncomputable def qN:List SV->List Ob->Option aoJ:=jf (λx_:bn×Int×(List (A1×Int)) =>[.os 0,.agg (cellsOf .B1 x_.1),.v (.int .i64 x_.2.1)]) (λx_=>[.mp .pq .int x_.2.2 none]) (λx_=>fK True (.tup []) [.mp .pq .int (eZ x_.1 x_.2.1 x_.2.2) none])
variable {p0_:Option (Nat×Option Tag.pq.T)}
@[go_sem] theorem IY(x:bn)(n:Int)(m_:List (A1×Int))(aqw:p0_=none):qN ([.os 0,.agg [.v (.int .i64 x.no),.v (.int .i64 x.kind),.v (.int .i64 x.right),.v (.int .i64 x.since),.v (.int .i64 x.to),.rs .part x.parts,.v (.int .i64 x.of_),.v (.int .i64 x.at_),.v (.int .i64 x.known)],.v (.int .i64 n)]) ([.mp .pq .int m_ p0_])=some (fK True (.tup []) [.mp .pq .int (eZ x n m_) none]):=by
 subst aqw;exact fL (A:=λx_:bn×Int×(List (A1×Int)) =>[.os 0,.agg (cellsOf .B1 x_.1),.v (.int .i64 x_.2.1)]) (H:=λx_=>[.mp .pq .int x_.2.2 none]) (K:=λx_=>fK True (.tup []) [.mp .pq .int (eZ x_.1 x_.2.1 x_.2.2) none]) (x:=(x,n,m_))
theorem wz:aoH Tryz.prog 314 (qN):=by
 have hG:=mG W2 W2;refine fR hG Tryz.f314 (λl o E h=>?_);obtain⟨⟨x,n,V⟩,rfl,rfl,rfl⟩:=dV h;clear h;try dsimp only
 refine⟨_,_,_,rfl,λO=>?_⟩;refine⟨nbl rfl,L0,?_,?_⟩;unfold ae Tryz.f314;simp only[ak,and_self,true_and,and_true];unfold ae Tryz.f314;try unfold eZ
 exact db (jl [0])
@[go_sem] def cb (x:bn)(n:Int)(k_0:Nat)(x4:List (A1×Int)×Int):Empty⊕(List (A1×Int)×Int):=letI q1:=x.parts.getD k_0 default;letI q0:=({ right:=x.right,gl:=q1.gl}:A1);letI q2:=eY (q1.share) n;.inr ((cH .pq .int x4.1 q0 (i64.wrap ((aq .pq .int x4.1 q0)+q2.1))),(i64.wrap (x4.2 - q2.1)))
@[go_sem] def iB (x:bn)(x4:List (A1×Int)×Int)(k_1:Nat)(s_1:List (A1×Int)):Empty⊕(List (A1×Int)):=letI q0:=({ right:=x.right,gl:=(((x.parts.take (Int.toNat x4.2)).drop 0).getD k_1 default).gl}:A1);.inr (cH .pq .int s_1 q0 (i64.wrap ((aq .pq .int s_1 q0)+1)))
def dC (x:bn)(n:Int)(m_:List (A1×Int)):List (A1×Int):=(match aj (cb x n) x.parts.length 0 (m_,n)with| .inl x=>x.elim| .inr x4=>(match aj (iB x x4) (((x.parts.take (Int.toNat x4.2)).drop 0).length) 0 x4.1 with| .inl x=>x.elim| .inr s_1=>s_1))
def fA (x:bn)(n:Int)(m_:List (A1×Int)):Prop:=(x.parts.length<=aN->(∀ x4,aj (cb x n) x.parts.length 0 (m_,n)=.inr x4->(0<=0/\0<=x4.2/\x4.2<=(x.parts.length:Int))))
noncomputable def pm:List SV->List Ob->Option aoJ:=jf (λx_:bn×Int×(List (A1×Int)) =>[.os 0,.agg (cellsOf .B1 x_.1),.v (.int .i64 x_.2.1)]) (λx_=>[.mp .pq .int x_.2.2 none]) (λx_=>fK (fA x_.1 x_.2.1 x_.2.2) (.tup []) [.mp .pq .int (dC x_.1 x_.2.1 x_.2.2) none])
@[go_sem] theorem HC(x:bn)(n:Int)(m_:List (A1×Int))(aqw:p0_=none):pm ([.os 0,.agg [.v (.int .i64 x.no),.v (.int .i64 x.kind),.v (.int .i64 x.right),.v (.int .i64 x.since),.v (.int .i64 x.to),.rs .part x.parts,.v (.int .i64 x.of_),.v (.int .i64 x.at_),.v (.int .i64 x.known)],.v (.int .i64 n)]) ([.mp .pq .int m_ p0_])=some (fK (fA x n m_) (.tup []) [.mp .pq .int (dC x n m_) none]):=by
 subst aqw;exact fL (A:=λx_:bn×Int×(List (A1×Int)) =>[.os 0,.agg (cellsOf .B1 x_.1),.v (.int .i64 x_.2.1)]) (H:=λx_=>[.mp .pq .int x_.2.2 none]) (K:=λx_=>fK (fA x_.1 x_.2.1 x_.2.2) (.tup []) [.mp .pq .int (dC x_.1 x_.2.1 x_.2.2) none]) (x:=(x,n,m_))
theorem vH:aoH Tryz.prog 315 (pm):=by
 have hG:=mG (cp xj W2) W2;refine fR hG Tryz.f315 (λl o con h=>?_);obtain⟨⟨x,n,O⟩,rfl,rfl,rfl⟩:=dV h;clear h;try dsimp only
 refine⟨_,_,_,rfl,λhp=>?_⟩;unfold fA at hp;refine⟨nbl rfl,(λid st=>bif Nat.beq id 0 then some (LCR (ρ:=Empty) (σ:=(List (A1×Int)×Int)) 2 [] [0,1] (λW E=>⟨[(0,.os 0),(2,.v (.int .i64 n)),(4,.ptr 1 0),(6,.v (.int .i64 E.2)),(16,.rs .part x.parts),(17,.v (.int .i64 (x.parts.length:Int))),(18,.v (.int .i64 (W:Int)))],[.mp .pq .int E.1 none,.cells (cellsOf .B1 x)]⟩) (cb x n) pT x.parts.length (O,n) (x.parts.length<=aN) ((·.elim)) ((·.elim)) st)else bif Nat.beq id 2 then some (LCR (ρ:=Empty) (σ:=(List (A1×Int))) 2 [] [0,1] (λX V=>⟨[(0,.os 0),(4,.ptr 1 0),(48,.rs .part ((x.parts.take (Int.toNat (cy (aj (cb x n) x.parts.length 0 (O,n))).2)).drop 0)),(49,.v (.int .i64 (((x.parts.take (Int.toNat (cy (aj (cb x n) x.parts.length 0 (O,n))).2)).drop 0).length:Int))),(50,.v (.int .i64 (X:Int)))],[.mp .pq .int V none,.cells (cellsOf .B1 x)]⟩) (iB x (cy (aj (cb x n) x.parts.length 0 (O,n)))) pT (((x.parts.take (Int.toNat (cy (aj (cb x n) x.parts.length 0 (O,n))).2)).drop 0).length) ((cy (aj (cb x n) x.parts.length 0 (O,n))).1) (((x.parts.take (Int.toNat (cy (aj (cb x n) x.parts.length 0 (O,n))).2)).drop 0).length<=aN) ((·.elim)) ((·.elim)) st)else none),?_,?_⟩;unfold ae Tryz.f315;simp only[ak,true_and,and_true,and_assoc];refine⟨?_,?_⟩;refine b_ mixed aJ hG kr (λ_=>rfl) (x.parts.length:Int) rfl fH (λhb0 W E apq _ hw hc=>⟨L0,ag _,?_⟩) (λhb0 E hc=>?_);exact bE (jl [0,1]);exact bF (jl [0,1]);refine b_ mixed aJ hG kr (λ_=>rfl) (((x.parts.take (Int.toNat (cy (aj (cb x n) x.parts.length 0 (O,n))).2)).drop 0).length:Int) rfl fH (λhb1 X V Y _ hw hc=>⟨L0,ag _,?_⟩) (λhb1 V hc=>?_);exact bE (jl [0,1]);exact bF (jl [0,1]);unfold ae Tryz.f315;try unfold dC
 exact db (jl [0])
def yr (x:bn)(n:Int)(m_:List (A1×Int)):Unit:=()
noncomputable def pn:List SV->List Ob->Option aoJ:=jf (λx_:bn×Int×(List (A1×Int)) =>[.os 0,.agg (cellsOf .B1 x_.1),.v (.int .i64 x_.2.1)]) (λx_=>[.mp .pq .int x_.2.2 none]) (λx_=>fK True (.tup []) [.mp .pq .int x_.2.2 none])
@[go_sem] theorem HD(x:bn)(n:Int)(m_:List (A1×Int))(aqw:p0_=none):pn ([.os 0,.agg [.v (.int .i64 x.no),.v (.int .i64 x.kind),.v (.int .i64 x.right),.v (.int .i64 x.since),.v (.int .i64 x.to),.rs .part x.parts,.v (.int .i64 x.of_),.v (.int .i64 x.at_),.v (.int .i64 x.known)],.v (.int .i64 n)]) ([.mp .pq .int m_ p0_])=some (fK True (.tup []) [.mp .pq .int m_ none]):=by
 subst aqw;exact fL (A:=λx_:bn×Int×(List (A1×Int)) =>[.os 0,.agg (cellsOf .B1 x_.1),.v (.int .i64 x_.2.1)]) (H:=λx_=>[.mp .pq .int x_.2.2 none]) (K:=λx_=>fK True (.tup []) [.mp .pq .int x_.2.2 none]) (x:=(x,n,m_))
theorem vI:aoH Tryz.prog 316 (pn):=by
 have hG:=mG W2 W2;refine fR hG Tryz.f316 (λl o E h=>?_);obtain⟨⟨x,n,V⟩,rfl,rfl,rfl⟩:=dV h;clear h;try dsimp only
 refine⟨_,_,_,rfl,λO=>?_⟩;refine⟨nbl rfl,L0,?_,?_⟩;unfold ae Tryz.f316;simp only[ak,and_self,true_and,and_true];unfold ae Tryz.f316;try unfold yr
 exact db (jl [0])
end Go.Sx
end
section
namespace Go.Proofs
open Go.Shelf Go.Sx
def Tryz.aqq:Go.Shelf.Ren:=⟨λ|5=>72|8=>133|7=>132|19=>199|20=>200|10=>190|11=>191|12=>192|13=>193|14=>194|15=>195|16=>196|17=>197|18=>198|30=>259|31=>260|32=>261|33=>262|34=>263|35=>137|40=>306|n=>n,λ|23=>35|25=>3|3=>3|32=>229|22=>35|0=>0|44=>294|46=>296|4=>4|36=>288|35=>287|41=>267|5=>5|9=>9|53=>342|57=>60|63=>375|64=>376|n=>n,λ|n=>n⟩
theorem Tryz.aq9:Go.Proofs.SlLaysM.n5 Tryz.prog Tryz.aqq:=⟨kr,⟨Tryz.f72.name,by decide,kr⟩,⟨Tryz.f132.name,by decide,kr⟩,kr,⟨Tryz.f190.name,by decide,kr⟩,⟨Tryz.f191.name,by decide,kr⟩,⟨Tryz.f192.name,by decide,kr⟩,⟨Tryz.f193.name,by decide,kr⟩,⟨Tryz.f194.name,by decide,kr⟩,⟨Tryz.f195.name,by decide,kr⟩,⟨Tryz.f196.name,by decide,kr⟩,⟨Tryz.f197.name,by decide,kr⟩,⟨Tryz.f198.name,by decide,kr⟩,kr,kr,⟨Tryz.f259.name,by decide,kr⟩,kr,kr,⟨Tryz.f262.name,by decide,kr⟩,⟨Tryz.f263.name,by decide,kr⟩,⟨Tryz.f137.name,by decide,kr⟩,⟨Tryz.f306.name,by decide,kr⟩,kr,λ_=>kr,λ_=>kr,λ_=>kr,kr,λ_=>kr,λ_=>kr,λ_=>kr,kr,λ_=>kr,λ_=>kr,λ_=>kr,kr,λ_=>kr,λ_=>kr,λ_=>kr,kr,λ_=>kr,λ_=>kr,λ_=>kr,kr,λ_=>kr,λ_=>kr,λ_=>kr,kr,λ_=>kr,λ_=>kr,λ_=>kr,kr,λ_=>kr,λ_=>kr,λ_=>kr,kr,λ_=>kr,λ_=>kr,λ_=>kr,kr,λ_=>kr,λ_=>kr,λ_=>kr,kr,λ_=>kr,λ_=>kr,λ_=>kr,kr,λ_=>kr,λ_=>kr,λ_=>kr,kr,λ_=>kr,λ_=>kr,λ_=>kr,kr,λ_=>kr,λ_=>kr,λ_=>kr,kr,λ_=>kr,λ_=>kr,λ_=>kr,kr,λ_=>kr,λ_=>kr,λ_=>kr,kr,λ_=>kr,λ_=>kr,λ_=>kr,kr,λ_=>kr,λ_=>kr,λ_=>kr⟩
end Go.Proofs
end
section
namespace Go.Sx
open Go.Proofs
def Rb:aoH Tryz.prog 72 Pv:=Pw Tryz.aq9
@[go_sem] def c8 (d:ah)(k_0:Nat)(x4:List (A1×Int)):Empty⊕(List (A1×Int)):=(bif((d.ai.getD k_0 default).kind==1)then .inr (cH .pq .int x4 ({ right:=(k_0:Int),gl:=(d.ai.getD k_0 default).gl}:A1) ((d.ai.getD k_0 default).dd))else .inr x4)
@[go_sem] def c9 (ds:List bn)(z_1:bn)(s_1:List Int×List (A1×Int)):Empty⊕(List Int×List (A1×Int)):=letI q0:=({ right:=z_1.right,gl:=z_1.since}:A1);letI q1:=aq .pq .int s_1.2 q0;letI q2:=sq .pq .int s_1.2 q0;(bif(q1==0)then .inr ((s_1.1++([z_1.no])),s_1.2)else(bif(z_1.kind==1)then .inr (s_1.1,(eZ z_1 q1 q2))else(bif(z_1.kind==2)then .inr (s_1.1,(dC z_1 q1 q2))else(bif(z_1.kind==3)then .inr (s_1.1,q2)else .inr default))))
def e_ (ds:List bn)(z_1:bn)(s_1:List Int×List (A1×Int)):Prop:=letI q1:=({ right:=z_1.right,gl:=z_1.since}:A1);letI q0:=aq .pq .int s_1.2 q1;(((q0==0)=true->((s_1.1++([z_1.no])).length*8<=d8))/\((q0==0)=false->((z_1.kind==1)=false->(((z_1.kind==2)=true->(fA z_1 q0 (sq .pq .int s_1.2 q1)))/\((z_1.kind==2)=false->((z_1.kind==3)=false->False))))))
def fh (d:ah)(ds:List bn):List (A1×Int)×List Int:=(match aj (c8 d) d.ai.length 0 ([])with| .inl x=>x.elim| .inr x4=>(match cB (c9 ds) (aZ ds) ([],x4)with| .inl x=>x.elim| .inr s_1=>(s_1.2,(wu s_1.1))))
def lh (d:ah)(ds:List bn):Prop:=letI q0:=aZ ds;(d.ai.length<=aN->(∀ x4,aj (c8 d) d.ai.length 0 ([])=.inr x4->((di ds (q0.map CU))/\okL (c9 ds) (e_ ds) q0 ([],x4))))
@[go_sem] noncomputable def Ax:List SV->Option Con:=(pD .al λd=>(pFn 318 (pXR .B1 λds=>(pE ((pE (.det (lh d ds) (.tup [.nm .pq .int ((fh d ds).1),.nw .int ((fh d ds).2)]))))))))
variable {p:Prop}
theorem ary(h:p:=by simp only[go_sem,e1_0,e1_1,e1_2,e1_3]):p:=h
variable {l0 l1:List Nat}
theorem arG(a0:JL l0)(a1:JL l1)(h:JL l0->JL l1->p:=by intro ja jb;simp only[go_sem,uS,c9,psT,CU,alr,ak_,hk0];all_goals exact gw ja jb):p:=h a0 a1
theorem aro(a0:JL l0)(a1:JL l1)(h:JL l0->JL l1->p:=by intro ja jb;simp only[go_sem,uS,c9,psT,CU,alr,ak_,hk0,hk1];all_goals exact gw ja jb):p:=h a0 a1
theorem ahr(a0:JL l0)(a1:JL l1)(h:JL l0->JL l1->p:=by intro ja jb;simp only[go_sem,uS,c9,psT,CU,alr,ak_,hk0,hk1,hk2];all_goals exact gw ja jb):p:=h a0 a1
theorem ahs(a0:JL l0)(a1:JL l1)(h:JL l0->JL l1->p:=by intro ja jb;simp only[go_sem,uS];all_goals exact gw ja jb):p:=h a0 a1
theorem arE(h:p:=by simp only[go_sem,uS];all_goals exact cl):p:=h
theorem zp:P1 Tryz.prog 229 Ax:=by
 have hG:=mG (cp Aw W2) (co Rb (co wz (co vH (co vI W2))));refine fW hG Tryz.f229 [(.cell 5 0,.int)] (az λd=>(oC (Ao λds=>(am ((am (λW=>?_)))))));dsimp only[an]at W;unfold lh at W;refine⟨nbl rfl,(λid st=>bif Nat.beq id 0 then some (LCR (ρ:=Empty) (σ:=(List (A1×Int))) 4 [] [0,1,2,3] (λY O=>⟨[(1,.fn 318 [] [.ep [.rs .B1 ds] 0]),(4,.ptr 1 0),(5,.ptr 2 0),(14,.rs .right d.ai),(15,.v (.int .i64 (d.ai.length:Int))),(16,.v (.int .i64 (Y:Int)))],[.dead,.cells [.os 3],.cells [.v (.slice none 0 0)],.mp .pq .int O none]⟩) (c8 d) pT d.ai.length ([]) (d.ai.length<=aN) ((·.elim)) ((·.elim)) st)else bif Nat.beq id 2 then some (LC (ρ:=Empty) (σ:=List Int×List (A1×Int)) (lk 4 st.t=.ptr 1 0/\lk 5 st.t=.ptr 2 0/\lk 8 st.t=.ptr 5 0/\lk 33 st.t=.fn 318 [] [.ep [.rs .B1 ds] 0]/\st.h=[.dead,.cells [.os 3],.cells [.v (.slice none 0 0)],.mp .pq .int (cy (aj (c8 d) d.ai.length 0 ([]))) none,.mp .int .fnc fY none,.cells [.os 4]]/\di ds ((aZ ds).map CU)/\okL (c9 ds) (e_ ds) (aZ ds) ([],(cy (aj (c8 d) d.ai.length 0 ([]))))) (cB (c9 ds) (aZ ds) ([],(cy (aj (c8 d) d.ai.length 0 ([]))))) (λx=>x.elim) (λx=>x.elim) (λE=>⟨[(4,.ptr 1 0),(5,.ptr 2 0),(8,.ptr 5 0)],[.dead,.cells [.os 3],.cells [.os 7],.mp .pq .int E.2 none,.mp .int .fnc fY none,.cells [.os 4],.dead,.row .int E.1]⟩))else none),?_,?_⟩
 ·unfold ae Tryz.f229;simp only[ak,true_and,and_true];refine⟨?_,?_⟩;refine b_ mixed aJ hG kr (λ_=>rfl) (d.ai.length:Int) rfl fH (λhb0 Y O apq _ hw hc=>⟨L0,ag _,?_⟩) (λhb0 O hc=>?_);exact bE (jl [0,1,2,3]);exact bF (jl [0,1,2,3])
  ·refine zl mixed aJ hG (by decide) (by decide) kr kr λst lc hC W=>?_;simp only[go_sem,Nat.reduceBEq,ak3]at hC;subst hC;obtain⟨t,h⟩:=st;dsimp only[LC]at W;obtain⟨e1_0,e1_1,e1_2,e1_3,rfl,hb1,X⟩:=W;refine⟨⟨t,[.dead,.cells [.os 3],.cells [.os 6],.mp .pq .int (cy (aj (c8 d) d.ai.length 0 ([]))) none,.mp .int .fnc fY none,.cells [.os 4],.row .int ([])]⟩,aph.cell (h:=[.dead,.cells [.os 3],.cells [.v (.slice none 0 0)],.mp .pq .int (cy (aj (c8 d) d.ai.length 0 ([]))) none,.mp .int .fnc fY none,.cells [.os 4]]) (i:=2) (j:=0) (.row .int ([])) (aph.refl _) rfl rfl (.inl ⟨_,rfl⟩),318,[.ep [.rs .B1 ds] 0],bn,_,_,(aZ ds),CU,(c9 ds),(e_ ds),_,([],(cy (aj (c8 d) d.ai.length 0 ([])))),_,_,_,[(4,.ptr 1 0),(5,.ptr 2 0),(8,.ptr 5 0)],(λE=>[.dead,.cells [.os 3],.cells [.os 7],.mp .pq .int E.2 none,.mp .int .fnc fY none,.cells [.os 4],.dead,.row .int E.1]),(λx=>x.elim),[0,1,2,3,4,5,6,6],?_,rfl,X,nbl rfl,?_,mS ds _ hb1,λV E hq1=>⟨rfl,L0,λl=>?_,λl=>?_,?_⟩,λE=>?_,λy=>?_⟩;exact ary
   ·simp only[go_sem,sH,jY,alp,ame,ak_,ali,alM,e1_0,e1_1,e1_2,e1_3];all_goals (first|done|decide|(repeat' (first|refine And.intro ?_ ?_|rfl|decide)))
   simp only[ak,and_self,true_and,and_true];simp only[ak,and_self,true_and,and_true];unfold e_ at hq1;rcases am2 (V.kind==1)with hk0|hk0;exact arG (jl [0,1,2,3,4,5,6,11]) (jl [0,1,2,3,4,5,6,7]);rcases am2 (V.kind==2)with hk1|hk1;exact aro (jl [0,1,2,3,4,5,6,11]) (jl [0,1,2,3,4,5,6,7]);rcases am2 (V.kind==3)with hk2|hk2;exact ahr (jl [0,1,2,3,4,5,6,11]) (jl [0,1,2,3,4,5,6,7]);exact ahr (jl [0,1,2,3,4,5,6,11]) (jl [0,1,2,3,4,5,6,7]);exact ahs (jl [0,1,2,3,4,5,6,11]) (jl [0,1,2,3,4,5,6,7]);exact ahs (jl [0,1,2,3,4,5,6,11]) (jl [0,1,2,3,4,5,6,7])
 unfold ae Tryz.f229;try unfold fh
 exact arE
end Go.Sx
end
section
namespace Go.Sx
@[go_sem ↓]def afl (x:Reach):mkE .reach [.v (.string x.name),.v (.int .i64 x.up),.v (.int .i64 x.delay),.v (.int .i64 x.cap),.v (.int .i64 x.ao7),.v (.int .i64 x.aoI),.v (.int .i64 x.apd.lo),.v (.int .i64 x.apd.hi),.v (.int .i64 x.aoT.1.n),.v (.int .i64 x.aoT.1.d),.v (.int .i64 x.aoT.2.n),.v (.int .i64 x.aoT.2.d)]=x:=(rfl)
@[go_sem ↓]def aht (x:apK):mkE .aoE [.v (.int .i64 x.cap),.v (.int .i64 x.start)]=x:=(rfl)
@[go_sem ↓]def ahu (x:apE):mkE .gl [.v (.string x.name),.v (.int .i64 x.reach),.v (.int .i64 x.ap6),.v (.int .i64 x.apa)]=x:=(rfl)
@[go_sem ↓]def afm (x:aoU):mkE .right [.v (.string x.name),.v (.int .i64 x.kind),.v (.int .i64 x.gl),.v (.int .i64 x.reach),.v (.int .i64 x.aoA),.v (.int .i64 x.dd),.v (.int .i64 x.since),.v (.int .i64 x.to),.v (.int .i64 x.every),.v (.int .i64 x.length)]=x:=(rfl)
@[go_sem ↓]def ahv (x:bn):mkE .B1 [.v (.int .i64 x.no),.v (.int .i64 x.kind),.v (.int .i64 x.right),.v (.int .i64 x.since),.v (.int .i64 x.to),.rs .part x.parts,.v (.int .i64 x.of_),.v (.int .i64 x.at_),.v (.int .i64 x.known)]=x:=(rfl)
@[go_sem ↓]def ahw (x:Part):mkE .part [.v (.int .i64 x.gl),.v (.int .i64 x.share.n),.v (.int .i64 x.share.d)]=x:=(rfl)
@[go_sem ↓]def aan (x:aox):mkE .holding [.v (.int .i64 x.right),.v (.int .i64 x.gl),.v (.int .i64 x.dd),.v (.int .i64 x.aoA)]=x:=(rfl)
@[go_sem ↓]def afn (x:W1):mkE .ratio [.v (.int .i64 x.n),.v (.int .i64 x.d)]=x:=(rfl)
@[go_sem ↓]def Rc (x:A1):mkE .pq [.v (.int .i64 x.right),.v (.int .i64 x.gl)]=x:=(rfl)
@[go_sem ↓]def afo (x:Claim):mkE .Q1 [.v (.int .i64 x.right),.v (.int .i64 x.gl),.v (.int .i64 x.hour),.v (.int .i64 x.dd),.v (.int .i64 x.aoA)]=x:=(rfl)
@[go_sem ↓]def XA (x:aou):mkE .X1 [.v (.int .i64 x.gl),.v (.int .i64 x.reach)]=x:=(rfl)
@[go_sem ↓]def TD (x:Y2):mkE .aom [.v (.int .i64 x.Q1.right),.v (.int .i64 x.Q1.gl),.v (.int .i64 x.Q1.hour),.v (.int .i64 x.Q1.dd),.v (.int .i64 x.Q1.aoA),.v (.int .i64 x.reach)]=x:=(rfl)
@[go_sem ↓]def afp (x:Order):mkE .order [.v (.int .i64 x.hour),.v (.int .i64 x.index),.v (.int .i64 x.dd),.v (.bool x.aol)]=x:=(rfl)
@[go_sem ↓]def afq (x:T1):mkE .fault [.v (.int .i64 x.kind),.v (.int .i64 x.hour),.v (.int .i64 x.index),.v (.int .i64 x.dd),.v (.int .i64 x.limit)]=x:=(rfl)
@[go_sem ↓]def acN (x:M1):mkE .aow [.v (.int .i64 x.reach),.v (.int .i64 x.hour),.v (.int .i64 x.dd),.v (.int .i64 x.wanted)]=x:=(rfl)
@[go_sem ↓]def aao (x:aoz):mkE .refusal [.rs .int x.ai,.v (.int .i64 x.kind),.v (.int .i64 x.reach),.v (.int .i64 x.hour),.rs .aow x.Y1]=x:=(rfl)
@[go_sem ↓]def TE (x:C1):mkE .G2 [.v (.string x.d.name),.v (.int .i64 x.d.hours),.v (.int .i64 x.d.aoE.cap),.v (.int .i64 x.d.aoE.start),.rs .reach x.d.reaches,.rs .gl x.d.zs,.rs .apa x.d.aoK,.rs .right x.d.ai,.rs .apn x.d.aoF,.rs .aps x.d.apf,.rs .Q1 x.c]=x:=(rfl)
@[go_sem ↓]def YR (x:ah):mkE .al [.v (.string x.name),.v (.int .i64 x.hours),.v (.int .i64 x.aoE.cap),.v (.int .i64 x.aoE.start),.rs .reach x.reaches,.rs .gl x.zs,.rs .apa x.aoK,.rs .right x.ai,.rs .apn x.aoF,.rs .aps x.apf]=x:=(rfl)
end Go.Sx
end
section
namespace Go.Sx
open Go.Proofs
open IntKind (i64 u64)
variable {l0 l1:List Nat}{p:Prop}
theorem sP(a0:JL l0)(a1:JL l1)(h:JL l0->JL l1->p:=by intro ja jb;simp only[go_sem,hc,hw];all_goals exact gw ja jb):p:=h a0 a1
theorem sQ(a0:JL l0)(a1:JL l1)(h:JL l0->JL l1->p:=by intro ja jb;simp only[go_sem,hc];all_goals exact gw ja jb):p:=h a0 a1
@[go_sem] def j5 (s_:List Int)(v:Int)(k_0:Nat)(x4:Unit):Int⊕Unit:=(bif(v==(s_.getD k_0 0))then .inl (k_0:Int)else .inr ())
def ju (s_:List Int)(v:Int):Int:=(match aj (j5 s_ v) s_.length 0 ()with| .inl u0=>u0| .inr x4=>(-1))
@[go_sem] def vJ:List SV->Option Con:=(pR .int λs_=>(pI λv=>(pE (.det True (.v (.int .i64 (ju s_ v)))))))
theorem uT:P1 Tryz.prog 91 vJ:=by
 have hG:=mG W2 W2;refine fN hG Tryz.f91 [.o] (bM λO=>(aG λv=>(am (λY=>?_))));dsimp only[an]at Y;refine⟨nbl rfl,(λid st=>bif Nat.beq id 0 then some (LCR (ρ:=Int) (σ:=Unit) 0 [] [] (λV W=>⟨[(0,.rs .int O),(1,.v (.int .i64 v)),(7,.v (.int .i64 (O.length:Int))),(8,.v (.int .i64 (V:Int)))],[]⟩) (j5 O v) pT O.length () (O.length<=aN) (λ_=>.ret) (λE=>⟨[(4,.v (.int .i64 E))],[]⟩) st)else none),?_,?_⟩;unfold ae Tryz.f91;simp only[ak,true_and,and_true];refine b_ mixed aJ hG kr (λ_=>rfl) (O.length:Int) rfl fH (λhb0 V W X _ hw hc=>⟨L0,ag _,?_⟩) (λhb0 W hc=>?_);exact bE (jl []);exact bF (jl []);unfold ae Tryz.f91;try unfold ju
 exact zq2
def dW (s_:List Int)(v:Int):Bool:=(decide ((ju s_ v)>=0))
@[go_sem] def tC:List SV->Option Con:=(pR .int λs_=>(pI λv=>(pE (.det True (.v (.bool (dW s_ v)))))))
theorem lQ:P1 Tryz.prog 44 tC:=by
 have hG:=mG (cn [.sl .int,.o] uT W2) W2;refine fN hG Tryz.f44 [.o] (bM λO=>(aG λv=>(am (λE=>?_))));dsimp only[an]at E;refine⟨nbl rfl,L0,ag _,?_⟩;unfold ae Tryz.f44;try unfold dW
 exact zq2
def ct (n:Int)(lo:Int)(hi:Int):Bool:=((decide (n>=lo))&&(decide (n<=hi)))
@[go_sem] def Dt:List SV->Option Con:=(pI λn=>(pI λlo=>(pI λhi=>(pE (.det True (.v (.bool (ct n lo hi))))))))
theorem pJ:P1 Tryz.prog 46 Dt:=by
 have hG:=mG W2 W2;refine fN hG Tryz.f46 [.o] (aG λn=>(aG λlo=>(aG λhi=>(am (λE=>?_)))));dsimp only[an]at E;refine⟨nbl rfl,L0,ag _,?_⟩;unfold ae Tryz.f46;try unfold ct
 exact zq2
@[go_sem] def fm (s_:C1)(k_0:Nat)(x4:List Int):Empty⊕(List Int):=.inr (x4++([(s_.c.getD k_0 default).right]))
def gI (s_:C1)(k_0:Nat)(x4:List Int):Prop:=((x4++([(s_.c.getD k_0 default).right])).length*8<=d8)
def av (s_:C1):List Int:=(match aj (fm s_) s_.c.length 0 ([])with| .inl x=>x.elim| .inr x4=>(cpI (wu x4)))
def fB (s_:C1):Prop:=(s_.c.length<=aN->okI (fm s_) (gI s_) s_.c.length 0 ([]))
@[go_sem] def wA:List SV->Option Con:=(pD .G2 λs_=>(pE (.det (fB s_) (.rs .int (av s_)))))
theorem kp:P1 Tryz.prog 31 wA:=by
 have hG:=mG W2 (co Rb (co acL W2));refine fN hG Tryz.f31 [.sl .int] (az λE=>(am (λX=>?_)));dsimp only[an]at X;unfold fB at X;refine⟨nbl rfl,(λid st=>bif Nat.beq id 0 then some (LCR (ρ:=Empty) (σ:=(List Int)) 1 [.slot 2 (.row .int ([]))] [0,1] (λV O=>⟨[(2,.os 1),(6,.rs .Q1 E.c),(7,.v (.int .i64 (E.c.length:Int))),(8,.v (.int .i64 (V:Int)))],[.dead,.row .int O]⟩) (fm E) (gI E) E.c.length ([]) (E.c.length<=aN) ((·.elim)) ((·.elim)) st)else none),?_,?_⟩;unfold ae Tryz.f31;simp only[ak,true_and,and_true];refine b_ mixed aJ hG kr (λ_=>rfl) (E.c.length:Int) rfl fH (λhb0 V O Y W hw hc=>⟨L0,ag _,?_⟩) (λhb0 O hc=>?_);unfold gI at W;try simp only[hw,ak1]at W
 exact sP (jl [0,4]) (jl [0,1]);exact sQ (jl [0,4]) (jl [0,1]);unfold ae Tryz.f31;try unfold av
 exact zq2
@[go_sem] def xp:List SV->Option Con:=pR .Q1 λl=>pE (.det (l.length*40<=d8) (.nw .Q1 l))
theorem wB:P1 Tryz.prog 75 xp:=by
 refine fW (mG W2 W2) Tryz.f75 [(.tmp 2,.Q1)] (bM λl=>am λE=>?_);dsimp only[an]at E;refine⟨nbl rfl,L0,ag _,?_⟩;unfold ae Tryz.f75;simp only[go_sem];intro b O;refine⟨λh=>?_,λ_=>?_⟩;have V:=O h;subst V;rfl;first|exact E|exact⟨E,λ_=>rfl⟩
def bu (x:Claim)(rs_:List Int):Bool:=(!(dW rs_ x.right))
@[go_sem] noncomputable def yu:List SV->Option Con:=(pD .Q1 λx=>(pXR .int λrs_=>(pE (.det True (.v (.bool (bu x rs_)))))))
theorem qO:P1 Tryz.prog 76 yu:=by
 have hG:=mG (cn [.sl .int,.o] lQ W2) W2;refine fN hG Tryz.f76 [.o] (az λx=>(Ao λO=>(am (λE=>?_))));dsimp only[an]at E;refine⟨nbl rfl,L0,ag _,?_⟩;unfold ae Tryz.f76;try unfold bu
 exact zq2
@[go_sem] def eV (s_:List Claim)(rs_:List Int)(k_0:Nat)(x4:Unit):Int⊕Unit:=(bif(bu (s_.getD k_0 default) rs_)then .inl (k_0:Int)else .inr ())
def a8 (s_:List Claim)(rs_:List Int):Int:=(match aj (eV s_ rs_) s_.length 0 ()with| .inl u0=>u0| .inr x4=>(-1))
@[go_sem] noncomputable def gS:List SV->Option Con:=(pR .Q1 λs_=>(pFn 76 (pXR .int λrs_=>(pE ((pE (.det True (.v (.int .i64 (a8 s_ rs_))))))))))
theorem lD:P1 Tryz.prog 134 gS:=by
 have hG:=mG (cp qO W2) W2;refine fN hG Tryz.f134 [.o] (bM λO=>(oC (Ao λV=>(am ((am (λhp=>?_)))))));dsimp only[an]at hp;refine⟨nbl rfl,(λid st=>bif Nat.beq id 0 then some (LCR (ρ:=Int) (σ:=Unit) 0 [] [] (λW X=>⟨[(0,.rs .Q1 O),(1,.fn 76 [] [.ep [.rs .int V] 0]),(7,.v (.int .i64 (O.length:Int))),(8,.v (.int .i64 (W:Int)))],[]⟩) (eV O V) pT O.length () (O.length<=aN) (λ_=>.ret) (λE=>⟨[(4,.v (.int .i64 E))],[]⟩) st)else none),?_,?_⟩;unfold ae Tryz.f134;simp only[ak,true_and,and_true];refine b_ mixed aJ hG kr (λ_=>rfl) (O.length:Int) rfl fH (λhb0 W X Y _ hw hc=>⟨L0,ag _,?_⟩) (λhb0 X hc=>?_);exact bE (jl []);exact bF (jl []);unfold ae Tryz.f134;try unfold a8
 exact zq2
@[go_sem] noncomputable def gG:List SV->Option Con:=λl=>(gS l)
def la:P1 Tryz.prog 134 gG:=lD
@[go_sem] def bQ (l_:List Claim)(rs_:List Int)(k_0:Nat)(x4:List Claim×Int×Int):(Int×List Claim)⊕(List Claim×Int×Int):=letI q0:=x4.1.getD (Int.toNat x4.2.2) default;letI q1:=i64.wrap (x4.2.2+1);(bif(decide (x4.2.2< (x4.1.length:Int)))then(bif(!(bu q0 rs_))then .inr ((x4.1.set (Int.toNat x4.2.1) q0),(i64.wrap (x4.2.1+1)),q1)else .inr (x4.1,x4.2.1,q1))else .inl (x4.2.1,x4.1))
def cd (l_:List Claim)(rs_:List Int)(k_0:Nat)(x4:List Claim×Int×Int):Prop:=letI q0:=(x4.1.length:Int);(x4.1.length<=aN->((decide (x4.2.2<q0))=true->((0<=x4.2.2/\x4.2.2<q0)/\((!(bu (x4.1.getD (Int.toNat x4.2.2) default) rs_))=true->(0<=x4.2.1/\x4.2.1<q0)))))
def bI (l_:List Claim)(rs_:List Int):List Claim:=letI q0:=a8 l_ rs_;(bif(q0==(-1))then l_ else(match aj (bQ l_ rs_) (l_.length+1) 0 (l_,q0,(i64.wrap (q0+1)))with| .inl u0=>(((wM .Q1 u0.2 u0.1 (u0.2.length:Int)).take (Int.toNat u0.1)).drop 0) | .inr x4=>default))
def bB (l_:List Claim)(rs_:List Int):Prop:=letI q0:=a8 l_ rs_;letI q1:=bQ l_ rs_;letI q2:=(l_,q0,(i64.wrap (q0+1)));letI q3:=l_.length+1;((q0==(-1))=false->(okI q1 (cd l_ rs_) q3 0 q2/\(∀ z_,aj q1 q3 0 q2≠ .inr z_)/\(∀ u0,aj q1 q3 0 q2=.inl u0->((0<=u0.1/\u0.1<=(u0.2.length:Int))/\(0<=0/\0<=u0.1/\u0.1<=((wM .Q1 u0.2 u0.1 (u0.2.length:Int)).length:Int))))))
noncomputable def gH:List SV->List Ob->Option aoJ:=jf (λx_:(List Claim)×(List Int) =>[.os 0,.fn 76 [] [.ptr 1 0]]) (λx_=>[.row .Q1 x_.1,.cells [.rs .int x_.2]]) (λx_=>fK (bB x_.1 x_.2) (.os 2) [.dead,.cells [.rs .int x_.2],.row .Q1 (bI x_.1 x_.2)])
@[go_sem]def vK (l_:List Claim)(rs_:List Int):gH ([.os 0,.fn (76:Nat) [] [.ptr 1 0]]) ([.row .Q1 l_,.cells [.rs .int rs_]])=some (fK (bB l_ rs_) (.os 2) [.dead,.cells [.rs .int rs_],.row .Q1 (bI l_ rs_)]):=fL (A:=λx_:(List Claim)×(List Int) =>[.os 0,.fn 76 [] [.ptr 1 0]]) (H:=λx_=>[.row .Q1 x_.1,.cells [.rs .int x_.2]]) (K:=λx_=>fK (bB x_.1 x_.2) (.os 2) [.dead,.cells [.rs .int x_.2],.row .Q1 (bI x_.1 x_.2)]) (x:=(l_,rs_))
theorem arP(a0:JL l0)(a1:JL l1)(h:JL l0->JL l1->p:=by intro ja jb;simp only[go_sem,gG];all_goals exact gw ja jb):p:=h a0 a1
theorem ld:aoH Tryz.prog 74 (gH):=by
 have hG:=mG (cp qO (cn [.sl .Q1,.o] la W2)) W2;refine fR hG Tryz.f74 (λl o con h=>?_);obtain⟨⟨W,E⟩,rfl,rfl,rfl⟩:=dV h;clear h;try dsimp only
 refine⟨_,_,_,rfl,λhp=>?_⟩;unfold bB at hp;refine⟨nbl rfl,(λid st=>bif Nat.beq id 0 then some (LCV (ρ:=(Int×List Claim)) (σ:=(List Claim×Int×Int)) 2 [] [0,1] (λX V=>⟨[(0,.os 0),(1,.fn 76 [] [.ptr 1 0]),(5,.v (.int .i64 V.2.1)),(6,.v (.int .i64 V.2.2))],[.row .Q1 V.1,.cells [.rs .int E]]⟩) (bQ W E) (cd W E) (W.length+1) (W,(a8 W E),(i64.wrap ((a8 W E)+1))) (λ_=>.normal) (λO=>⟨[(0,.os 0),(5,.v (.int .i64 O.1))],[.row .Q1 O.2,.cells [.rs .int E]]⟩) st)else none),?_,?_⟩;unfold ae Tryz.f74;simp only[ak,true_and,and_true,and_assoc];refine eW mixed aJ hG kr (λ_=>rfl) λX V Y=>⟨L0,ag _,?_⟩;unfold cd at Y;exact db (jl [0,1]);unfold ae Tryz.f74;try unfold bI
 exact arP (jl [0,1,0]) (jl [0,1,2])
def da (s_:C1)(ai:List Int):C1:=({ d:=s_.d,c:=(bI s_.c ai)}:C1)
def jv (s_:C1)(ai:List Int):Prop:=((s_.c.length*40<=d8)/\(bB s_.c ai))
@[go_sem] def Ay:List SV->Option Con:=(pD .G2 λs_=>(pR .int λai=>(pE (.det (jv s_ ai) (.agg (cellsOf .G2 (da s_ ai)))))))
theorem sR:P1 Tryz.prog 32 Ay:=by
 have hG:=mG (cn [.sl .Q1] wB W2) (co ld W2);refine fN hG Tryz.f32 [.st .G2] (az λO=>(bM λai=>(am (λE=>?_))));dsimp only[an]at E;unfold jv at E;refine⟨nbl rfl,L0,ag _,?_⟩;unfold ae Tryz.f32;try unfold da
 exact zq2
def xV (d:ah):Bool:=((((((decide ((d.reaches.length:Int)<=100))&&(decide ((d.zs.length:Int)<=700)))&&(decide ((d.aoK.length:Int)<=100)))&&(decide ((d.ai.length:Int)<=300)))&&(decide ((d.aoF.length:Int)<=300)))&&(decide ((d.apf.length:Int)<=100)))
@[go_sem] def M6:List SV->Option Con:=(pD .al λd=>(pE (.det True (.v (.bool (xV d))))))
theorem Ky:P1 Tryz.prog 125 M6:=by
 have hG:=mG W2 W2;refine fN hG Tryz.f125 [.o] (az λd=>(am (λE=>?_)));dsimp only[an]at E;refine⟨nbl rfl,L0,ag _,?_⟩;unfold ae Tryz.f125;try unfold xV
 exact zq2
def aS (n:Int)(lo:Int)(hi:Int):Bool:=((decide (n>=lo))&&(decide (n<=hi)))
@[go_sem] def FC:List SV->Option Con:=(pI λn=>(pI λlo=>(pI λhi=>(pE (.det True (.v (.bool (aS n lo hi))))))))
theorem kF:P1 Tryz.prog 299 FC:=by
 have hG:=mG W2 W2;refine fN hG Tryz.f299 [.o] (aG λn=>(aG λlo=>(aG λhi=>(am (λE=>?_)))));dsimp only[an]at E;refine⟨nbl rfl,L0,ag _,?_⟩;unfold ae Tryz.f299;try unfold aS
 exact zq2
@[go_sem] def iK (b:Int)(k_0:Nat)(x4:Int×Int):Int⊕(Int×Int):=(bif(decide (x4.2 > 0))then .inr (x4.2,(Int.tmod x4.1 x4.2))else .inl x4.1)
def nT (b:Int)(k_0:Nat)(x4:Int×Int):Prop:=((decide (x4.2 > 0))=true->x4.2≠0)
def nf (a:Int)(b:Int):Int:=(match aj (iK b) (Int.toNat b+1) 0 (a,b)with| .inl u0=>u0| .inr x4=>default)
def nK (a:Int)(b:Int):Prop:=(okI (iK b) (nT b) (Int.toNat b+1) 0 (a,b)/\(∀ z_,aj (iK b) (Int.toNat b+1) 0 (a,b)≠ .inr z_))
@[go_sem] def Du:List SV->Option Con:=(pI λa=>(pI λb=>(pE (.det (nK a b) (.v (.int .i64 (nf a b)))))))
theorem BT:P1 Tryz.prog 332 Du:=by
 have hG:=mG W2 W2;refine fN hG Tryz.f332 [.o] (aG λa=>(aG λb=>(am (λX=>?_))));dsimp only[an]at X;unfold nK at X;refine⟨nbl rfl,(λid st=>bif Nat.beq id 0 then some (LCV (ρ:=Int) (σ:=(Int×Int)) 0 [] [] (λV O=>⟨[(0,.v (.int .i64 O.1)),(1,.v (.int .i64 O.2))],[]⟩) (iK b) (nT b) (Int.toNat b+1) (a,b) (λ_=>.normal) (λE=>⟨[(0,.v (.int .i64 E))],[]⟩) st)else none),?_,?_⟩;unfold ae Tryz.f332;simp only[ak,true_and,and_true];refine eW mixed aJ hG kr (λ_=>rfl) λV O W=>⟨L0,ag _,?_⟩;unfold nT at W;exact db (jl []);unfold ae Tryz.f332;try unfold nf
 exact zq2
def pK (n:Int):Int:=(bif(decide (n<0))then(i64.wrap (0 - n))else n)
@[go_sem] def Kz:List SV->Option Con:=(pI λn=>(pE (.det True (.v (.int .i64 (pK n))))))
theorem HE:P1 Tryz.prog 333 Kz:=by
 have hG:=mG W2 W2;refine fN hG Tryz.f333 [.o] (aG λn=>(am (λE=>?_)));dsimp only[an]at E;refine⟨nbl rfl,L0,ag _,?_⟩;unfold ae Tryz.f333;try unfold pK
 exact zq2
def eD (a:W1):Bool:=(((((decide (a.d>=1))&&(decide (a.d<=1073741824)))&&(decide (a.n>=(-1073741824))))&&(decide (a.n<=1073741824)))&&((nf (pK a.n) a.d) ==1))
def iJ (a:W1):Prop:=(((((decide (a.d>=1))&&(decide (a.d<=1073741824)))&&(decide (a.n>=(-1073741824))))&&(decide (a.n<=1073741824)))=true->(nK (pK a.n) a.d))
@[go_sem] def HF:List SV->Option Con:=(pD .ratio λa=>(pE (.det (iJ a) (.v (.bool (eD a))))))
theorem oN:P1 Tryz.prog 303 HF:=by
 have hG:=mG (cp BT (cp HE W2)) W2;refine fN hG Tryz.f303 [.o] (az λa=>(am (λE=>?_)));dsimp only[an]at E;unfold iJ at E;refine⟨nbl rfl,L0,ag _,?_⟩;unfold ae Tryz.f303;try unfold eD
 exact zq2
def jw (a:W1):Int:=(bif(!(eD a))then 120 else 0)
def qj (a:W1):Prop:=(iJ a)
@[go_sem] def HG:List SV->Option Con:=(pD .ratio λa=>(pE (.det (qj a) (.v (.int .i64 (jw a))))))
theorem FD:P1 Tryz.prog 347 HG:=by
 have hG:=mG (cp oN W2) W2;refine fN hG Tryz.f347 [.o] (az λa=>(am (λE=>?_)));dsimp only[an]at E;unfold qj at E;refine⟨nbl rfl,L0,ag _,?_⟩;unfold ae Tryz.f347;try unfold jw
 exact zq2
def sS (a:W1)(b:W1):Bool:=(decide ((i64.wrap (a.n*b.d)) < (i64.wrap (b.n*a.d))))
@[go_sem] def KA:List SV->Option Con:=(pD .ratio λa=>(pD .ratio λb=>(pE (.det True (.v (.bool (sS a b)))))))
theorem HH:P1 Tryz.prog 311 KA:=by
 have hG:=mG W2 W2;refine fN hG Tryz.f311 [.o] (az λa=>(az λb=>(am (λE=>?_))));dsimp only[an]at E;refine⟨nbl rfl,L0,ag _,?_⟩;unfold ae Tryz.f311;try unfold sS
 exact zq2
def kq (a:W1)(b:W1):Bool:=((eD a)&&(eD b))
def oO (a:W1)(b:W1):Prop:=((iJ a)/\((eD a)=true->(iJ b)))
@[go_sem] def KB:List SV->Option Con:=(pD .ratio λa=>(pD .ratio λb=>(pE (.det (oO a b) (.v (.bool (kq a b)))))))
theorem yP:P1 Tryz.prog 334 KB:=by
 have hG:=mG (cp oN W2) W2;refine fN hG Tryz.f334 [.o] (az λa=>(az λb=>(am (λE=>?_))));dsimp only[an]at E;unfold oO at E;refine⟨nbl rfl,L0,ag _,?_⟩;unfold ae Tryz.f334;try unfold kq
 exact zq2
def pL (a:W1)(b:W1):Int×Int:=(bif(!(kq a b))then(0,120)else(bif(sS a b)then((-1),0)else(bif(sS b a)then(1,0)else(0,0))))
def xq (a:W1)(b:W1):Prop:=(oO a b)
@[go_sem] def M7:List SV->Option Con:=(pD .ratio λa=>(pD .ratio λb=>(pE (.det (xq a b) (.tup [.v (.int .i64 ((pL a b).1)),.v (.int .i64 ((pL a b).2))])))))
theorem KC:P1 Tryz.prog 348 M7:=by
 have hG:=mG (cp HH (cp yP W2)) W2;refine fN hG Tryz.f348 [.o,.o] (az λa=>(az λb=>(am (λE=>?_))));dsimp only[an]at E;unfold xq at E;refine⟨nbl rfl,L0,ag _,?_⟩;unfold ae Tryz.f348;try unfold pL
 exact zq2
@[go_sem] def kR (a1:Int)(k_0:Nat)(x4:Int×Int):(Int×Int)⊕(Int×Int):=(bif(decide (x4.2< (-1)))then .inr (x4.2,(Int.tmod x4.1 x4.2))else .inl (x4.1,x4.2))
def nL (a1:Int)(k_0:Nat)(x4:Int×Int):Prop:=((decide (x4.2< (-1)))=true->x4.2≠0)
def pN (a0:Int)(a1:Int):W1×Int:=letI q0:=bif(decide (a0 > 0))then(i64.wrap (0 - a0))else a0;letI q1:=bif(decide (a1 > 0))then(i64.wrap (0 - a1))else a1;letI q2:=i64.wrap (Int.tdiv q0 (-1));letI q3:=i64.wrap (Int.tdiv q1 (-1));letI q4:=(decide (a0<0)) !=(decide (a1<0));letI q5:=decide (q0< (-1073741824));letI q6:=decide (q1< (-1073741824));(bif(a1==0)then(({ n:=0,d:=0}:W1),120)else(match aj (kR a1) (Int.natAbs a1+2) 0 (q0,q1)with| .inl u0=>(bif(u0.2==(-1))then(bif(q5||q6)then(({ n:=0,d:=0}:W1),2)else(bif((decide (q2 > 1073741824)) ||(decide (q3 > 1073741824)))then(({ n:=0,d:=0}:W1),2)else(bif q4 then(({ n:=(i64.wrap (0 - q2)),d:=q3}:W1),0)else(({ n:=q2,d:=q3}:W1),0))))else(bif((u0.1==(-1))&&(q5||q6))then(({ n:=0,d:=0}:W1),2)else(bif((decide ((i64.wrap (Int.tdiv q0 u0.1)) > 1073741824)) ||(decide ((i64.wrap (Int.tdiv q1 u0.1)) > 1073741824)))then(({ n:=0,d:=0}:W1),2)else(bif q4 then(({ n:=(i64.wrap (0 - (i64.wrap (Int.tdiv q0 u0.1)))),d:=(i64.wrap (Int.tdiv q1 u0.1))}:W1),0)else(({ n:=(i64.wrap (Int.tdiv q0 u0.1)),d:=(i64.wrap (Int.tdiv q1 u0.1))}:W1),0))))) | .inr x4=>default))
def oQ (a0:Int)(a1:Int):Prop:=letI q1:=bif(decide (a0 > 0))then(i64.wrap (0 - a0))else a0;letI q2:=bif(decide (a1 > 0))then(i64.wrap (0 - a1))else a1;letI q0:=(q1,q2);letI q3:=Int.natAbs a1+2;letI q4:=kR a1;letI q5:=decide (q1< (-1073741824));letI q6:=decide (q2< (-1073741824));((a1==0)=false->(okI q4 (nL a1) q3 0 q0/\(∀ z_,aj q4 q3 0 q0≠ .inr z_)/\(∀ u0,aj q4 q3 0 q0=.inl u0->(((u0.2==(-1))=true->((q5||q6)=false->((-1)≠0/\(-1)≠0)))/\((u0.2==(-1))=false->(((u0.1==(-1))&&(q5||q6))=false->(u0.1≠0/\u0.1≠0)))))))
@[go_sem] def KD:List SV->Option Con:=(pI λa0=>(pI λa1=>(pE (.det (oQ a0 a1) (.tup [.agg (cellsOf .ratio ((pN a0 a1).1)),.v (.int .i64 ((pN a0 a1).2))])))))
theorem HI:P1 Tryz.prog 335 KD:=by
 have hG:=mG W2 W2;refine fN hG Tryz.f335 [.st .ratio,.o] (aG λa0=>(aG λa1=>(am (λX=>?_))));dsimp only[an]at X;unfold oQ at X;refine⟨nbl rfl,(λid st=>bif Nat.beq id 1000016 then some (JC (⟨[(0,.v (.int .i64 a0)),(1,.v (.int .i64 a1)),(4,.ptr 0 0),(6,.v (.int .i64 (bif(decide (a0 > 0))then(i64.wrap (0 - a0))else a0)))],[.cells [.v (.int .i64 0),.v (.int .i64 0)]]⟩))else bif Nat.beq id 1000021 then some (JC (⟨[(0,.v (.int .i64 a0)),(1,.v (.int .i64 a1)),(4,.ptr 0 0),(6,.v (.int .i64 (bif(decide (a0 > 0))then(i64.wrap (0 - a0))else a0))),(7,.v (.int .i64 (bif(decide (a1 > 0))then(i64.wrap (0 - a1))else a1)))],[.cells [.v (.int .i64 0),.v (.int .i64 0)]]⟩))else bif Nat.beq id 0 then some (LCV (ρ:=(Int×Int)) (σ:=(Int×Int)) 1 [] [0] (λV O=>⟨[(0,.v (.int .i64 a0)),(1,.v (.int .i64 a1)),(4,.ptr 0 0),(6,.v (.int .i64 (bif(decide (a0 > 0))then(i64.wrap (0 - a0))else a0))),(7,.v (.int .i64 (bif(decide (a1 > 0))then(i64.wrap (0 - a1))else a1))),(8,.v (.int .i64 O.1)),(9,.v (.int .i64 O.2))],[.cells [.v (.int .i64 0),.v (.int .i64 0)]]⟩) (kR a1) (nL a1) (Int.natAbs a1+2) ((bif(decide (a0 > 0))then(i64.wrap (0 - a0))else a0),(bif(decide (a1 > 0))then(i64.wrap (0 - a1))else a1)) (λ_=>.normal) (λE=>⟨[(0,.v (.int .i64 a0)),(1,.v (.int .i64 a1)),(4,.ptr 0 0),(6,.v (.int .i64 (bif(decide (a0 > 0))then(i64.wrap (0 - a0))else a0))),(7,.v (.int .i64 (bif(decide (a1 > 0))then(i64.wrap (0 - a1))else a1))),(8,.v (.int .i64 E.1)),(9,.v (.int .i64 E.2))],[.cells [.v (.int .i64 0),.v (.int .i64 0)]]⟩) st)else none),?_,?_⟩;unfold ae Tryz.f335;simp only[ak,true_and,and_true];refine eW mixed aJ hG kr (λ_=>rfl) λV O W=>⟨L0,ag _,?_⟩;unfold nL at W;exact db (jl [0]);unfold ae Tryz.f335;try unfold pN
 exact zq2
def sg (a:W1)(b:W1):W1×Int:=letI q0:=pN (i64.wrap ((i64.wrap (a.n*b.d))+(i64.wrap (b.n*a.d)))) (i64.wrap (a.d*b.d));(bif(!(kq a b))then(({ n:=0,d:=0}:W1),120)else((q0.1),q0.2))
def qP (a:W1)(b:W1):Prop:=((oO a b)/\((!(kq a b))=false->(oQ (i64.wrap ((i64.wrap (a.n*b.d))+(i64.wrap (b.n*a.d)))) (i64.wrap (a.d*b.d)))))
@[go_sem] def M8:List SV->Option Con:=(pD .ratio λa=>(pD .ratio λb=>(pE (.det (qP a b) (.tup [.agg (cellsOf .ratio ((sg a b).1)),.v (.int .i64 ((sg a b).2))])))))
theorem KE:P1 Tryz.prog 304 M8:=by
 have hG:=mG (cp yP (cp HI W2)) W2;refine fN hG Tryz.f304 [.st .ratio,.o] (az λa=>(az λb=>(am (λE=>?_))));dsimp only[an]at E;unfold qP at E;refine⟨nbl rfl,L0,ag _,?_⟩;unfold ae Tryz.f304;try unfold sg
 exact zq2
def oa (n:Int)(d:Int):Int:=(bif(decide ((Int.tmod n d) <0))then(i64.wrap ((i64.wrap (Int.tdiv n d)) - 1))else(i64.wrap (Int.tdiv n d)))
def qk (n:Int)(d:Int):Prop:=(d≠0/\d≠0)
@[go_sem] def HJ:List SV->Option Con:=(pI λn=>(pI λd=>(pE (.det (qk n d) (.v (.int .i64 (oa n d)))))))
theorem FE:P1 Tryz.prog 305 HJ:=by
 have hG:=mG W2 W2;refine fN hG Tryz.f305 [.o] (aG λn=>(aG λd=>(am (λE=>?_))));dsimp only[an]at E;unfold qk at E;refine⟨nbl rfl,L0,ag _,?_⟩;unfold ae Tryz.f305;try unfold oa
 exact zq2
def gk (a:W1)(n:Int):Int×Int×Int:=(bif(!(eD a))then(0,0,120)else(bif((decide (n< (-1073741824))) ||(decide (n > 1073741824)))then(0,0,1)else((oa (i64.wrap (a.n*n)) a.d),(i64.wrap (0 - (oa (i64.wrap ((i64.wrap (0 - a.n))*n)) a.d))),0)))
def nh (a:W1)(n:Int):Prop:=((iJ a)/\((!(eD a))=false->(((decide (n< (-1073741824))) ||(decide (n > 1073741824)))=false->((qk (i64.wrap (a.n*n)) a.d)/\(qk (i64.wrap ((i64.wrap (0 - a.n))*n)) a.d)))))
@[go_sem] def HK:List SV->Option Con:=(pD .ratio λa=>(pI λn=>(pE (.det (nh a n) (.tup [.v (.int .i64 ((gk a n).1)),.v (.int .i64 ((gk a n).2.1)),.v (.int .i64 ((gk a n).2.2))])))))
theorem FF:P1 Tryz.prog 258 HK:=by
 have hG:=mG (cp oN (cp FE W2)) W2;refine fN hG Tryz.f258 [.o,.o,.o] (az λa=>(aG λn=>(am (λE=>?_))));dsimp only[an]at E;unfold nh at E;refine⟨nbl rfl,L0,ag _,?_⟩;unfold ae Tryz.f258;try unfold gk
 exact zq2
def jx (x:W1×W1):Bool:=(bif(((jw x.1) !=0) ||((jw x.2) !=0))then false else(((decide (x.1.n>=0))&&(decide ((pL x.1 x.2).1<=0)))&&(decide (x.2.n<=x.2.d))))
def oR (x:W1×W1):Prop:=((qj x.1)/\((((jw x.1) !=0)=false->(qj x.2))/\((((jw x.1) !=0) ||((jw x.2) !=0))=false->(xq x.1 x.2))))
@[go_sem] def FG:List SV->Option Con:=(pD .ao9 λx=>(pE (.det (oR x) (.v (.bool (jx x))))))
theorem Dv:P1 Tryz.prog 344 FG:=by
 have hG:=mG (cp FD (cp KC W2)) W2;refine fN hG Tryz.f344 [.o] (az λx=>(am (λE=>?_)));dsimp only[an]at E;unfold oR at E;refine⟨nbl rfl,L0,ag _,?_⟩;unfold ae Tryz.f344;try unfold jx
 exact zq2
def qQ (x:Reach):Bool:=(bif(((!(aS x.delay 1 16)) ||(!(aS x.cap 0 1073741824))) ||(!(aS x.ao7 0 1099511627776)))then false else(bif(((!(aS x.aoI 0 (if x.ao7<x.cap then x.ao7 else x.cap))) ||(!(aS x.apd.lo 0 x.apd.hi))) ||(decide (x.apd.hi > 1073741824)))then false else(jx x.aoT)))
def ql (x:Reach):Prop:=((((!(aS x.delay 1 16)) ||(!(aS x.cap 0 1073741824))) ||(!(aS x.ao7 0 1099511627776)))=false->((((!(aS x.aoI 0 (if x.ao7<x.cap then x.ao7 else x.cap))) ||(!(aS x.apd.lo 0 x.apd.hi))) ||(decide (x.apd.hi > 1073741824)))=false->(oR x.aoT)))
@[go_sem] def HL:List SV->Option Con:=(pD .reach λx=>(pE (.det (ql x) (.v (.bool (qQ x))))))
theorem FH:P1 Tryz.prog 331 HL:=by
 have hG:=mG (cp kF (cp Dv W2)) W2;refine fN hG Tryz.f331 [.o] (az λx=>(am (λE=>?_)));dsimp only[an]at E;unfold ql at E;refine⟨nbl rfl,L0,ag _,?_⟩;unfold ae Tryz.f331;try unfold qQ
 exact zq2
@[go_sem] def iL (l_:List Reach)(k_0:Nat)(x4:Unit):Unit⊕Unit:=letI q0:=l_.getD k_0 default;letI q1:=(k_0:Int);(bif(((q1==0)&&(q0.up !=(-1))) ||((decide (q1 > 0))&&(!(aS (q0.up) 0 (i64.wrap (q1 - 1))))))then .inl ()else(bif(!(qQ q0))then .inl ()else .inr ()))
def nU (l_:List Reach)(k_0:Nat)(x4:Unit):Prop:=(l_.length<=aN->(((((k_0:Int) ==0)&&((l_.getD k_0 default).up !=(-1))) ||((decide ((k_0:Int) > 0))&&(!(aS ((l_.getD k_0 default).up) 0 (i64.wrap ((k_0:Int) - 1))))))=false->(ql (l_.getD k_0 default))))
def ni (l_:List Reach):Bool:=(match aj (iL l_) l_.length 0 ()with| .inl u0=>false| .inr x4=>(decide ((l_.length:Int) > 0)))
def rq (l_:List Reach):Prop:=okI (iL l_) (nU l_) l_.length 0 ()
@[go_sem] def Dw:List SV->Option Con:=(pR .reach λl_=>(pE (.det (rq l_) (.v (.bool (ni l_))))))
theorem BU:P1 Tryz.prog 300 Dw:=by
 have hG:=mG (cp kF (cp FH W2)) W2;refine fN hG Tryz.f300 [.o] (bM λV=>(am (λY=>?_)));dsimp only[an]at Y;unfold rq at Y;refine⟨nbl rfl,(λid st=>bif Nat.beq id 0 then some (LCR (ρ:=Unit) (σ:=Unit) 0 [] [] (λE O=>⟨[(0,.rs .reach V),(3,.v (.int .i64 (E:Int)))],[]⟩) (iL V) (nU V) V.length () (True) (λ_=>.ret) (λX=>⟨[(2,.v (.bool false))],[]⟩) st)else none),?_,?_⟩;unfold ae Tryz.f300;simp only[ak,true_and,and_true];refine d9 (V.length<=aN) mixed aJ hG kr (λ_=>rfl) (V.length:Int) rfl fH (λhb0 E O apq W hw hc=>⟨L0,ag _,?_⟩) (λhb0 O hc=>?_) λhb0 E O=>?_;unfold nU at W;try simp only[hw,ak1]at W
 exact bE (jl []);exact bF (jl []);exact zq8;unfold ae Tryz.f300;try unfold ni
 exact zq2
@[go_sem] def lR (a0:ah)(k_0:Nat)(x4:Unit):Unit⊕Unit:=(bif(!(aS ((a0.aoK.getD k_0 default).need) 0 1048576))then .inl ()else .inr ())
@[go_sem] def lT (a0:ah)(k_1:Nat)(s_1:Unit):Unit⊕Unit:=letI q0:=a0.zs.getD k_1 default;(bif((!(aS (q0.reach) 0 (i64.wrap ((a0.reaches.length:Int) - 1)))) ||(!(aS (q0.ap6) 0 1048576)))then .inl ()else(bif(((q0.ap6==0)&&(q0.apa !=(-1))) ||((decide (q0.ap6 > 0))&&(!(aS (q0.apa) 0 (i64.wrap ((a0.aoK.length:Int) - 1))))))then .inl ()else .inr ()))
def qR (a0:ah):Bool:=(match aj (lR a0) a0.aoK.length 0 ()with| .inl u0=>false| .inr x4=>(match aj (lT a0) a0.zs.length 0 ()with| .inl ape=>false| .inr s_1=>true))
@[go_sem] def HM:List SV->Option Con:=(pD .al λa0=>(pE (.det True (.v (.bool (qR a0))))))
theorem Pz(h:p:=by simp only[go_sem,hb1]):p:=h
theorem FI:P1 Tryz.prog 301 HM:=by
 have hG:=mG (cp kF W2) W2;refine fN hG Tryz.f301 [.o] (az λa0=>(am (λhp=>?_)));dsimp only[an]at hp;refine⟨nbl rfl,(λid st=>bif Nat.beq id 0 then some (LCR (ρ:=Unit) (σ:=Unit) 1 [] [0] (λV O=>⟨[(1,.ptr 0 0),(3,.v (.int .i64 (V:Int)))],[.cells (cellsOf .al a0)]⟩) (lR a0) pT a0.aoK.length () (True) (λ_=>.ret) (λY=>⟨[(2,.v (.bool false))],[.dead]⟩) st)else bif Nat.beq id 2 then some (LCR (ρ:=Unit) (σ:=Unit) 1 [] [0] (λW E=>⟨[(1,.ptr 0 0),(4,.v (.int .i64 (W:Int)))],[.cells (cellsOf .al a0)]⟩) (lT a0) pT a0.zs.length () (True) (λ_=>.ret) (λX=>⟨[(2,.v (.bool false))],[.dead]⟩) st)else none),?_,?_⟩;unfold ae Tryz.f301;simp only[ak,true_and,and_true];refine⟨?_,?_⟩;refine d9 (a0.aoK.length<=aN) mixed aJ hG kr (λ_=>rfl) (a0.aoK.length:Int) rfl fH (λhb0 V O apq _ hw hc=>⟨L0,ag _,?_⟩) (λhb0 O hc=>?_) λhb0 V O=>?_;exact bE (jl [0]);exact bF (jl [0]);exact zq8;refine d9 (a0.zs.length<=aN) mixed aJ hG kr (λ_=>rfl) (a0.zs.length:Int) rfl fH (λhb1 W E apU _ hw hc=>⟨L0,ag _,?_⟩) (λhb1 E hc=>?_) λhb1 W E=>?_;exact bE (jl [0]);exact bF (jl [0]);exact Pz;unfold ae Tryz.f301;try unfold qR
 exact zq2
def qS (a0:ah)(a1:aoU):Bool:=letI q0:=(((a1.aoA==0)&&(a1.dd==0))&&(a1.every==0))&&(a1.length==0);(bif((((!(aS a1.gl 0 (i64.wrap ((a0.zs.length:Int) - 1)))) ||(!(aS a1.reach 0 (i64.wrap ((a0.reaches.length:Int) - 1))))) ||(!(aS a1.since 0 a1.to))) ||(decide (a1.to>=a0.hours)))then false else(bif(a1.kind==1)then(((((a1.reach==0)&&(aS a1.aoA 0 1048576))&&(aS a1.dd 1 1073741824))&&(aS a1.length 1 a1.every))&&(decide (a1.every<=a0.hours)))else(bif(a1.kind==2)then((q0&&(a1.since==0))&&(a1.to==(i64.wrap (a0.hours - 1))))else(bif(a1.kind==3)then q0 else false))))
@[go_sem] def HN:List SV->Option Con:=(pD .al λa0=>(pD .right λa1=>(pE (.det True (.v (.bool (qS a0 a1)))))))
theorem FJ:P1 Tryz.prog 302 HN:=by
 have hG:=mG (cp kF W2) W2;refine fN hG Tryz.f302 [.o] (az λa0=>(az λa1=>(am (λE=>?_))));dsimp only[an]at E;refine⟨nbl rfl,L0,ag _,?_⟩;unfold ae Tryz.f302;try unfold qS
 exact zq2
@[go_sem] def lU (a0:ah)(k_0:Nat)(x4:Unit):Unit⊕Unit:=(bif(!(qS a0 (a0.ai.getD k_0 default)))then .inl ()else .inr ())
@[go_sem] def lV (a0:ah)(k_1:Nat)(s_1:Unit):Unit⊕Unit:=letI q0:=a0.aoF.getD k_1 default;(bif(((!(aS (q0.gl) 0 (i64.wrap ((a0.zs.length:Int) - 1)))) ||(!(aS (q0.reach) 0 (i64.wrap ((a0.reaches.length:Int) - 1))))) ||(!(aS (q0.due) 0 a0.hours)))then .inl ()else .inr ())
def oc (a0:ah):Bool:=(bif(((!(aS a0.hours 1 4096)) ||(!(aS a0.aoE.start 0 a0.aoE.cap))) ||(decide (a0.aoE.cap > 1099511627776)))then false else(bif((!(ni a0.reaches)) ||(!(qR a0)))then false else(match aj (lU a0) a0.ai.length 0 ()with| .inl u0=>false| .inr x4=>(match aj (lV a0) a0.aoF.length 0 ()with| .inl ape=>false| .inr s_1=>true))))
def qm (a0:ah):Prop:=((((!(aS a0.hours 1 4096)) ||(!(aS a0.aoE.start 0 a0.aoE.cap))) ||(decide (a0.aoE.cap > 1099511627776)))=false->(rq a0.reaches))
@[go_sem] def HO:List SV->Option Con:=(pD .al λa0=>(pE (.det (qm a0) (.v (.bool (oc a0))))))
theorem FK:P1 Tryz.prog 252 HO:=by
 have hG:=mG (cp kF (cn [.sl .reach] BU (cn [.st .al] FI (cn [.st .al,.st .right] FJ W2)))) W2;refine fN hG Tryz.f252 [.o] (az λa0=>(am (λhp=>?_)));dsimp only[an]at hp;unfold qm at hp;refine⟨nbl rfl,(λid st=>bif Nat.beq id 0 then some (LCR (ρ:=Unit) (σ:=Unit) 1 [] [0] (λV O=>⟨[(1,.ptr 0 0),(3,.v (.int .i64 (V:Int)))],[.cells (cellsOf .al a0)]⟩) (lU a0) pT a0.ai.length () (True) (λ_=>.ret) (λY=>⟨[(2,.v (.bool false))],[.dead]⟩) st)else bif Nat.beq id 2 then some (LCR (ρ:=Unit) (σ:=Unit) 1 [] [0] (λW E=>⟨[(1,.ptr 0 0),(4,.v (.int .i64 (W:Int)))],[.cells (cellsOf .al a0)]⟩) (lV a0) pT a0.aoF.length () (True) (λ_=>.ret) (λX=>⟨[(2,.v (.bool false))],[.dead]⟩) st)else none),?_,?_⟩;unfold ae Tryz.f252;simp only[ak,true_and,and_true];refine⟨?_,?_⟩;refine d9 (a0.ai.length<=aN) mixed aJ hG kr (λ_=>rfl) (a0.ai.length:Int) rfl fH (λhb0 V O apq _ hw hc=>⟨L0,ag _,?_⟩) (λhb0 O hc=>?_) λhb0 V O=>?_;exact bE (jl [0]);exact bF (jl [0]);exact zq8;refine d9 (a0.aoF.length<=aN) mixed aJ hG kr (λ_=>rfl) (a0.aoF.length:Int) rfl fH (λhb1 W E apU _ hw hc=>⟨L0,ag _,?_⟩) (λhb1 E hc=>?_) λhb1 W E=>?_;exact bE (jl [0]);exact bF (jl [0]);exact Pz;unfold ae Tryz.f252;try unfold oc
 exact zq2
def lW (d:ah):Int:=(bif(((((decide ((d.reaches.length:Int) > 64)) ||(decide ((d.zs.length:Int) > 600))) ||(decide ((d.aoK.length:Int) > 32))) ||(decide ((d.ai.length:Int) > 256))) ||(decide ((d.aoF.length:Int) > 256)))then 2 else(bif(!(oc d))then 191 else 0))
def qn (d:ah):Prop:=(d.reaches.length<=aN->((((((decide ((d.reaches.length:Int) > 64)) ||(decide ((d.zs.length:Int) > 600))) ||(decide ((d.aoK.length:Int) > 32))) ||(decide ((d.ai.length:Int) > 256))) ||(decide ((d.aoF.length:Int) > 256)))=false->(qm d)))
@[go_sem] def HP:List SV->Option Con:=(pD .al λd=>(pE (.det (qn d) (.v (.int .i64 (lW d))))))
theorem FL:P1 Tryz.prog 182 HP:=by
 have hG:=mG (cn [.st .al] FK W2) W2;refine fN hG Tryz.f182 [.o] (az λd=>(am (λE=>?_)));dsimp only[an]at E;unfold qn at E;refine⟨nbl rfl,L0,ag _,?_⟩;unfold ae Tryz.f182;try unfold lW
 exact zq2
@[go_sem] def yQ (dA:List Int)(k_0:Nat)(x4:Unit):Int⊕Unit:=(bif((dA.getD k_0 0) !=0)then .inl (dA.getD k_0 0)else .inr ())
def jH (dA:List Int):Int:=(match aj (yQ dA) dA.length 0 ()with| .inl u0=>u0| .inr x4=>0)
@[go_sem] def KF:List SV->Option Con:=(pR .int λdA=>(pE (.det True (.v (.int .i64 (jH dA))))))
theorem yR:P1 Tryz.prog 81 KF:=by
 have hG:=mG W2 W2;refine fN hG Tryz.f81 [.o] (bM λdA=>(am (λX=>?_)));dsimp only[an]at X;refine⟨nbl rfl,(λid st=>bif Nat.beq id 0 then some (LCR (ρ:=Int) (σ:=Unit) 0 [] [] (λO V=>⟨[(3,.v (.int .i64 0)),(6,.rs .int dA),(7,.v (.int .i64 (dA.length:Int))),(8,.v (.int .i64 (O:Int)))],[]⟩) (yQ dA) pT dA.length () (dA.length<=aN) (λ_=>.ret) (λE=>⟨[(2,.v (.int .i64 E))],[]⟩) st)else none),?_,?_⟩;unfold ae Tryz.f81;simp only[ak,true_and,and_true];refine b_ mixed aJ hG kr (λ_=>rfl) (dA.length:Int) rfl fH (λhb0 O V W _ hw hc=>⟨L0,ag _,?_⟩) (λhb0 V hc=>?_);exact bE (jl []);exact bF (jl []);unfold ae Tryz.f81;try unfold jH
 exact zq2
def c6 (x:aox)(y:aox):Int:=(jH ([(bj x.right y.right),(bj x.gl y.gl)]))
@[go_sem] def wh:List SV->Option Con:=(pD .holding λx=>(pD .holding λy=>(pE (.det True (.v (.int .i64 (c6 x y)))))))
theorem BV:P1 Tryz.prog 232 wh:=by
 have hG:=mG (cn [.sl .int] yR (cp eX W2)) W2;refine fN hG Tryz.f232 [.o] (az λx=>(az λy=>(am (λE=>?_))));dsimp only[an]at E;refine⟨nbl rfl,L0,ag _,?_⟩;unfold ae Tryz.f232;try unfold c6
 exact zq2
theorem jy (x y:Int):bj x y=if x<y then -1 else if x > y then 1 else 0:=by
 unfold bj kP;simp[amf]
theorem PA (x:Int)(l:List Int):jH (x::l)=if x=0 then jH l else x:=by
 have key:∀ l:List Int,jH l=match cB (ρ:=Int) (λ(x:Int) (_:Unit) =>bif(x !=0)then .inl x else .inr ()) l ()with| .inl y=>y| .inr _=>0:=λl=>by
  unfold jH;have:=rP (ρ:=Int) (λ(x:Int) (_:Unit) =>bif(x !=0)then .inl x else .inr ()) 0 l ();rw[<-this];rfl
 rw[key,key];simp only[cB];by_cases h:x=0
 subst h;rfl;have:(x !=0)=true:=by simpa using h
 rw[if_neg h,this];rfl
def SK:jH []=0:=rfl
def mD:List (Int×Int)->Prop
 | [] =>False|(a,b)::r=>a<b\/a=b/\mD r
theorem BW:∀ l:List (Int×Int),(jH (l.map λp=>bj p.1 p.2) <0↔mD l)
 | [] =>by simp[SK,mD]
 |(a,b)::r=>by
  have hc:=jy a b;simp only[alt,PA,hc,mD];rcases anz a b with h|h|h;simp[h];subst h;simp only[an9,if_false,if_true,true_and,false_or,gt_iff_lt];exact BW r;have h1:¬a<b:=by omega
  have h2:a≠b:=by omega
  simp[h1,h2,h]
def hlt (a b:aox):Prop:=mD [(a.right,b.right),(a.gl,b.gl)]
def FM (a b:aox):c6 a b<0↔hlt a b:=BW [(a.right,b.right),(a.gl,b.gl)]
open Go.Shelf Go.Sort in
theorem KG {α:Type}{f:α->α->Int}{r:α->α->Prop}(e:∀ x y,f x y<0↔r x y)(h1:∀ x,¬r x x)(h2:∀ x y z,r x y->r y z->r x z)(V:∀ x y z,¬r x y->¬r y z->¬r x z):SWO (ltOf f):=by
 have E:∀ x y,ltOf f x y=true↔r x y:=λx y=>by unfold ltOf;rw[decide_eq_true_eq,e]
 have O:∀ x y,ltOf f x y=false↔¬r x y:=λx y=>by rw[<-E];simp
 exact⟨λx=>(O x x).2 (h1 x),λx y z a b=>(E x z).2 (h2 x y z ((E x y).1 a) ((E y z).1 b)),λx y z a b=>(O x z).2 (V x y z ((O x y).1 a) ((O y z).1 b))⟩
open Go.Shelf Go.Sort in
theorem CV:SWO (ltOf c6):=KG FM (λx=>by simp only[hlt,mD,and_false,or_false];omega) (λx y z h1 h2=>by simp only[hlt,mD,and_false,or_false]at *;omega) (λx y z h1 h2=>by simp only[hlt,mD,and_false,or_false]at *;omega)
variable {n:Nat}
theorem mE{i:Nat}{step:Nat->Unit->Unit⊕Unit}{s:Unit}(h:aj step n i s=.inr s):∀ j,i<=j->j<i+n->step j ()=.inr ():=by
 induction n generalizing i with
 |zero=>omega
 |succ n E=>
  grind [aj]
theorem iw {b:Bool}{e:Int}:dE b e=b:=by
 cases b <;>rfl
variable {c:Int}
theorem vL{a b:Int}(h:aR [a,b,c]=true):a<=b/\b<=c:=by
 unfold aR at h;simp only[ak5,alo,ak8,Nat.reduceAdd,Nat.reduceSub]at h;split at h
 cases h;rename_i s E;have O:=mE E 0 (by omega) (by omega);have h1:=mE E 1 (by omega) (by omega);grind [cD,IntKind.wrap,IntKind.bits,IntKind.signed]
theorem qo{a b d:Int}(h:aR [a,b,c,d]=true):a<=b/\b<=c/\c<=d:=by
 unfold aR at h;simp only[ak5,alo,ak8,Nat.reduceAdd,Nat.reduceSub]at h;split at h
 cases h;rename_i s E;have O:=mE E 0 (by omega) (by omega);have h1:=mE E 1 (by omega) (by omega);have h2:=mE E 2 (by omega) (by omega);simp[cD,IntKind.wrap,IntKind.bits,IntKind.signed]at O h1 h2;grind
structure aoL (d:ah):Prop where
 reaches:d.reaches.length<=64
 one:0<d.reaches.length
 zs:d.zs.length<=600
 ai:d.ai.length<=256
 apz:1<=d.hours
 hours:d.hours<=4096
 arv:0<=d.aoE.start
 start:d.aoE.start<=d.aoE.cap
 cap:d.aoE.cap<=1099511627776
 reach:∀ k,k<d.reaches.length->dy (k:Int) (d.reaches.getD k default)=true
 gl:∀ k,k<d.zs.length->0<=(d.zs.getD k default).reach/\(d.zs.getD k default).reach< (d.reaches.length:Int)
theorem jz {d:ah}(h:(aw d !=0)=false):aoL d:=by
 have h:aw d=0:=by simpa using h
 unfold aw at h;simp only[iw]at h;cases h1:(decide ((d.reaches.length:Int)<=64)&&decide ((d.zs.length:Int)<=600)&&decide ((d.aoK.length:Int)<=32)&&decide ((d.ai.length:Int)<=256)&&decide ((d.aoF.length:Int)<=256))with
 |false=>grind
 |true=>
  rw[h1]at h;simp only[cond_true]at h;cases h2:fV d 191 with
  |false=>grind
  |true=>
   unfold fV at h2;simp only[iw]at h2;cases E:(aR [1,d.hours,4096]&&aR [0,d.aoE.start,d.aoE.cap,1099511627776]&&decide ((d.reaches.length:Int) > 0))with
   |false=>grind
   |true=>
    rw[E]at h2;simp only[cond_true]at h2;simp only[akZ,decide_eq_true_eq]at h1 E;obtain⟨r1,X⟩:=vL E.1.1;obtain⟨r3,r4,W⟩:=qo E.1.2;split at h2
    cases h2;rename_i s0 O;split at h2
    cases h2;rename_i s1 hs1;split at h2
    cases h2;rename_i s2 V;refine⟨by omega,by omega,by omega,by omega,r1,X,r3,r4,W,λk Y=>?_,λk Y=>?_⟩;have:=mE O k (by omega) (by omega);grind [d5,iw]
    have:=mE V k (by omega) (by omega);grind [d6,iw,cJ]
theorem od {k:Nat}(h:k<9223372036854775807)(h1:0<k):i64.wrap ((k:Int) - 1)=((k - 1:Nat):Int):=by
 grind [aA]
theorem xW {step:Nat->Unit->Unit⊕Unit}:∀ {n i:Nat},(∀ j,i<=j->j<i+n->step j ()=.inr ())->aj step n i ()=.inr ()
 |0,_,_=>rfl
 |n+1,i,h=>by
  simp only[aj];rw[h i (by omega) (by omega)];exact xW λj h1 h2=>h j (by omega) (by omega)
theorem gT{step:Nat->Unit->Unit⊕Unit}:aj step n 0 ()=.inr ()↔∀ j,j<n->step j ()=.inr ():=
 ⟨λh j E=>mE h j (by omega) (by omega),λh=>xW λj _ h2=>h j (by omega)⟩
theorem PB{ρ:Type}{i:Nat}{step:Nat->Unit->ρ⊕Unit}{s:Unit}(h:aj step n i s=.inr s):∀ j,i<=j->j<i+n->step j ()=.inr ():=by
 induction n generalizing i with
 |zero=>omega
 |succ n E=>
  grind [aj]
theorem iC{α:Type}(l:List α)(d:α)(h:n<l.length):l.getD n d=l[n]:=by
 grind
theorem oe {k:Tag}(l:List (k.T×Int))(x z:k.T)(y:Int):aq k .int (cH k .int l x y) z=if z=x then y else aq k .int l z:=by
 grind [aq,cH,uR]
theorem acO{step:Nat->Unit->Unit⊕Unit}{α:Type}{a b:α}:(match aj step n 0 ()with| .inl _=>a| .inr _=>b)=b\/∃ y,aj step n 0 ()=.inl y:=by
 grind
variable {a:Int}
theorem FN{b:Int}(h1:a<=b)(h2:b<=c):aR [a,b,c]=true:=by
 have e:aj (cD [a,b,c]) 2 0 ()=.inr ():=gT.2 λj E=>by
  rcases(by omega:j=0\/j=1)with rfl|rfl;simp[cD,IntKind.wrap,IntKind.bits,IntKind.signed,amf];omega;simp[cD,IntKind.wrap,IntKind.bits,IntKind.signed,amf];omega
 simp_all [aR]
theorem FO{b d:Int}(h1:a<=b)(h2:b<=c)(O:c<=d):aR [a,b,c,d]=true:=by
 have e:aj (cD [a,b,c,d]) 3 0 ()=.inr ():=gT.2 λj E=>by
  rcases(by omega:j=0\/j=1\/j=2)with rfl|rfl|rfl;simp[cD,IntKind.wrap,IntKind.bits,IntKind.signed,amf];omega;simp[cD,IntKind.wrap,IntKind.bits,IntKind.signed,amf];omega;simp[cD,IntKind.wrap,IntKind.bits,IntKind.signed,amf];omega
 simp_all [aR]
theorem qT (d:ah):aw d=0↔(d.reaches.length<=64/\d.zs.length<=600/\d.aoK.length<=32/\d.ai.length<=256/\d.aoF.length<=256)/\(1<=d.hours/\d.hours<=4096)/\(0<=d.aoE.start/\d.aoE.start<=d.aoE.cap/\d.aoE.cap<=1099511627776)/\0<d.reaches.length/\
  (∀ k,k<d.reaches.length->d5 d 191 k ()=.inr ())/\(∀ k,k<d.aoK.length->eK d 191 k ()=.inr ())/\(∀ k,k<d.zs.length->d6 d 191 k ()=.inr ())/\(∀ k,k<d.ai.length->d7 d 191 k ()=.inr ())/\(∀ k,k<d.aoF.length->fu d 191 k ()=.inr ()):=by
 have X:fV d 191=true↔(1<=d.hours/\d.hours<=4096)/\(0<=d.aoE.start/\d.aoE.start<=d.aoE.cap/\d.aoE.cap<=1099511627776)/\0<d.reaches.length/\
  (∀ k,k<d.reaches.length->d5 d 191 k ()=.inr ())/\(∀ k,k<d.aoK.length->eK d 191 k ()=.inr ())/\(∀ k,k<d.zs.length->d6 d 191 k ()=.inr ())/\(∀ k,k<d.ai.length->d7 d 191 k ()=.inr ())/\(∀ k,k<d.aoF.length->fu d 191 k ()=.inr ()):=by
  unfold fV;simp only[iw];cases E:(aR [1,d.hours,4096]&&aR [0,d.aoE.start,d.aoE.cap,1099511627776]&&decide ((d.reaches.length:Int) > 0))with
  |false=>
   simp_all [FN,FO]
  |true=>
   simp only[akZ,decide_eq_true_eq]at E;have O:=vL E.1.1;have W:=qo E.1.2;have V:=E.2;simp only[cond_true];grind [gT]
 unfold aw;simp only[iw];grind
theorem M9:∀ (f n d:Nat),1<=d->d<=f->1<=n->∀ x,(BA f n d).getLastD x=Nat.gcd n d
 |0,n,d,h1,h2,_,x=>by omega
 |f+1,n,d,h1,h2,h3,x=>by
  unfold BA;have O:max d 1=d:=by omega
  rw[if_neg (by omega),O];by_cases E:n % d=0
  rw[if_pos E];have:d ∣ n:=Nat.dvd_of_mod_eq_zero E;grind [Nat.gcd_eq_right]
  rw[if_neg E];have hlt:n % d<d:=am5 _ (by omega);have V:=M9 f d (n % d) (by omega) (by omega) (by omega) n;grind [Nat.gcd_comm,Nat.gcd_rec]
theorem FP{d:Nat}(h:1<=d):MF n d=Nat.gcd n d:=by
 unfold MF;rw[if_neg (by omega)];by_cases E:n=0
 subst E;cases d with
 |zero=>omega|succ d=>simp[BA]
 exact M9 d n d h (ak2 _) (by omega) d
theorem KH (O:Int):∀ (n i:Nat) (a b:Int),0<=a->0<=b->b.toNat<n->aj (iK O) n i (a,b)=.inl ((Nat.gcd a.toNat b.toNat:Nat):Int)
 |0,_,_,_,_,_,h=>by omega
 |n+1,i,a,b,ha,hb,h=>by
  simp only[aj,iK];by_cases E:b > 0
  rw[decide_eq_true E];simp only[cond_true];have V:=amj (b:=b) ha;have W:=am3 a (by omega:b≠0);have X:=amK a E;rw[V,KH O n (i+1) b (a % b) hb W (by omega)];have Y:(a % b).toNat=a.toNat % b.toNat:=by
   grind
  grind [Nat.gcd_comm,Nat.gcd_rec]
  rw[decide_eq_false E];have:b=0:=by omega
  subst this;grind
theorem CW{b:Int}(E:0<=a)(O:0<=b):nf a b=((Nat.gcd a.toNat b.toNat:Nat):Int):=by
 grind [nf,KH]
theorem SL{b:Int}(E:0<=a)(O:0<=b):nK a b:=by
 refine⟨g8 _ _ _ λj s _ _ h=>?_,λz h=>?_⟩;grind
 grind [KH]
variable {n:Int}
theorem Rd(E:0<=n)(h1:n<18446744073709551616):u64.wrap n=n:=by
 grind [IntKind.wrap,IntKind.bits,IntKind.signed]
theorem HQ(E: -1073741824<=n)(h1:n<=1073741824):dp n=(n.natAbs:Int):=by
 unfold dp;by_cases h:n<0
 rw[decide_eq_true h];simp only[cond_true,IntKind.wrap,IntKind.bits,IntKind.signed];grind
 rw[decide_eq_false h];simp only[cond_false];grind [Rd]
theorem FQ(E: -1073741824<=n)(h1:n<=1073741824):pK n=(n.natAbs:Int):=by
 unfold pK;by_cases h:n<0
 rw[decide_eq_true h];simp only[cond_true];grind [aA]
 grind
structure aoW (a:W1):Prop where
 d1:1<=a.d
 d:a.d<=1073741824
 n0: -1073741824<=a.n
 n:a.n<=1073741824
 gcd:Nat.gcd a.n.natAbs a.d.toNat=1
theorem gE (a:W1):aV a=0↔aoW a:=by
 unfold aV;cases h:((((decide (a.d<1)) ||(decide (a.d > 1073741824))) ||(decide (a.n< (-1073741824)))) ||(decide (a.n > 1073741824)))with
 |true=>
  simp only[anS,cond_true];simp only[alx,decide_eq_true_eq]at h;refine⟨λe=>(by cases e),λr=>?_⟩;have:=r.d1;have:=r.d;have:=r.n0;have:=r.n;omega
 |false=>
  simp only[alC,decide_eq_false_iff_not]at h;rw[HQ (by omega) (by omega),Rd (by omega) (by omega),ak1,FP (by omega)];simp only[aml];by_cases E:Nat.gcd a.n.natAbs a.d.toNat=1
  rw[E];exact⟨λ_=>⟨by omega,by omega,by omega,by omega,E⟩,λ_=>rfl⟩;have:((Nat.gcd a.n.natAbs a.d.toNat:Nat):Int)≠1:=by omega
  rw[bne_iff_ne.2 this];exact⟨λe=>(by cases e),λr=>absurd r.gcd E⟩
theorem sh (a:W1):eD a=true↔aoW a:=by
 unfold eD;constructor
 intro h;simp only[akZ,decide_eq_true_eq,beq_iff_eq]at h;obtain⟨⟨⟨⟨h1,h2⟩,O⟩,E⟩,V⟩:=h;rw[FQ (by omega) (by omega),CW (by omega) (by omega),ak1]at V;exact⟨h1,h2,O,E,by omega⟩;intro r;have:=r.d1;have:=r.d;have:=r.n0;have:=r.n;simp only[akZ,decide_eq_true_eq,beq_iff_eq];rw[FQ (by omega) (by omega),CW (by omega) (by omega),ak1,r.gcd];omega
theorem VV (a:W1):aV a=0\/aV a=120:=by
 unfold aV;grind
theorem M_ (a:W1):aV a=jw a:=by
 unfold jw;cases h:eD a with
 |true=>exact(gE a).2 ((sh a).1 h)
 |false=>
  have:aV a≠0:=λe=>by
   have:=(sh a).2 ((gE a).1 e);grind
  have:=VV a;grind
theorem xr (a:W1):eD a=(aV a==0):=by
 grind [gE,sh]
theorem acP (a b:W1):g9 a b=pL a b:=by
 unfold g9 pL kq sS;rw[xr,xr,jy];grind
theorem xX (a:W1):iJ a:=λh=>by
 simp only[akZ,decide_eq_true_eq]at h;rw[FQ (by omega) (by omega)];exact SL (by omega) (by omega)
def PC (a b:W1):oO a b:=⟨xX a,λ_=>xX b⟩
theorem sj (a b c:Int):aR [a,b,c]=(decide (a<=b)&&decide (b<=c)):=by
 cases h:aR [a,b,c]with
 |true=>have:=vL h;grind
 |false=>
  grind [FN]
theorem uU (a b c d:Int):aR [a,b,c,d]=(decide (a<=b)&&decide (b<=c)&&decide (c<=d)):=by
 cases h:aR [a,b,c,d]with
 |true=>have:=qo h;grind
 |false=>
  grind [FO]
theorem VW (x:W1×W1):jt x=jx x:=by
 unfold jt jx;rw[acP,<-M_,<-M_];unfold pL kq;rw[xr,xr];grind
theorem KI (i:Int)(x:Reach):dy i x=true↔((i > 0/\0<=x.up/\x.up<i)\/(¬i > 0/\x.up= -1))/\(1<=x.delay/\x.delay<=16)/\(0<=x.aoI/\x.aoI<=x.cap/\x.cap<=1073741824)/\(x.aoI<=x.ao7/\x.ao7<=1099511627776)/\(0<=x.apd.lo/\x.apd.lo<=x.apd.hi/\x.apd.hi<=1073741824)/\jx x.aoT=true:=by
 unfold dy cJ;rw[VW,sj,uU,uU,uU];grind
theorem acQ (x:Reach):qQ x=true↔(1<=x.delay/\x.delay<=16)/\(0<=x.aoI/\x.aoI<=x.cap/\x.cap<=1073741824)/\(x.aoI<=x.ao7/\x.ao7<=1099511627776)/\(0<=x.apd.lo/\x.apd.lo<=x.apd.hi/\x.apd.hi<=1073741824)/\jx x.aoT=true:=by
 unfold qQ aS;grind
theorem FR (l:List Reach)(k:Nat)(O:k<4096):iL l k ()=.inr ()↔dy (k:Int) (l.getD k default)=true:=by
 unfold iL aS;rw[KI];have E:∀ A B:Bool,((bif A then Sum.inl ()else bif B then Sum.inl ()else Sum.inr ()):Unit⊕Unit)=.inr ()↔A=false/\B=false:=λA B=>by grind
 rw[E,amz,acQ];generalize l.getD k default=x;generalize jx x.aoT=q;by_cases h:0<k
 rw[od (by omega) h];grind
 grind
theorem SN {n:Nat}(h:n<=4096):i64.wrap ((n:Int) - 1)=(n:Int) - 1:=aA (by omega) (by omega)
theorem YS (x:ByteArray):(x==x)=true:=by
 cases x with
 |mk d=>
  show(d==d)=true;simp
theorem VX (d:ah)(x:aoU)(h1:d.zs.length<=600)(h2:d.reaches.length<=64)(O:1<=d.hours)(E:d.hours<=4096):iA d x=qS d x:=by
 unfold iA qS cJ aS;rw[uU,sj,sj,uU,SN (by omega),SN (by omega),aA (by omega: -9223372036854775808<=d.hours - 1) (by omega)];rw[YS];grind
theorem ux (A:Bool):((bif A then Sum.inr ()else Sum.inl ()):Unit⊕Unit)=.inr ()↔A=true:=by grind
theorem uy (A:Bool):((bif A then Sum.inl ()else Sum.inr ()):Unit⊕Unit)=.inr ()↔A=false:=by grind
theorem IZ (d:ah)(k:Nat):lR d k ()=.inr ()↔eK d 191 k ()=.inr ():=by
 unfold lR eK aS;simp_all [iw,uy,ux,sj]
theorem I0 (d:ah)(k:Nat)(h1:d.reaches.length<=64)(h2:d.aoK.length<=32):lT d k ()=.inr ()↔d6 d 191 k ()=.inr ():=by
 unfold lT d6 aS cJ;simp only[iw];rw[sj,SN (by omega),SN (by omega)];grind
theorem I1 (d:ah)(k:Nat)(h1:d.reaches.length<=64)(h2:d.zs.length<=600):lV d k ()=.inr ()↔fu d 191 k ()=.inr ():=by
 unfold lV fu aS cJ;simp only[iw];rw[sj,SN (by omega),SN (by omega),ux,uy];grind
theorem CX (d:ah)(k:Nat)(h1:d.zs.length<=600)(h2:d.reaches.length<=64)(O:1<=d.hours)(E:d.hours<=4096):lU d k ()=.inr ()↔d7 d 191 k ()=.inr ():=by
 simp_all [lU,d7,iw,VX]
theorem m1 {r:Unit⊕Unit}{a b:Bool}:(match r with| .inl _=>a| .inr _=>b)=true↔(r=.inr ()/\b=true)\/((∃ y,r=.inl y)/\a=true):=by
 grind
theorem Na (d:ah)(h1:d.reaches.length<=64)(h2:d.zs.length<=600)(h3:d.aoK.length<=32):oc d=true↔(1<=d.hours/\d.hours<=4096)/\(0<=d.aoE.start/\d.aoE.start<=d.aoE.cap/\d.aoE.cap<=1099511627776)/\0<d.reaches.length/\
  (∀ k,k<d.reaches.length->d5 d 191 k ()=.inr ())/\(∀ k,k<d.aoK.length->eK d 191 k ()=.inr ())/\(∀ k,k<d.zs.length->d6 d 191 k ()=.inr ())/\(∀ k,k<d.ai.length->d7 d 191 k ()=.inr ())/\(∀ k,k<d.aoF.length->fu d 191 k ()=.inr ()):=by
 have hR:ni d.reaches=true↔(∀ k,k<d.reaches.length->d5 d 191 k ()=.inr ())/\0<d.reaches.length:=by
  unfold ni;refine an7 (m1 (r:=aj (iL d.reaches) d.reaches.length 0 ()) (a:=false) (b:=decide ((d.reaches.length:Int) > 0))) ?_;simp only[ak7,and_false,or_false,decide_eq_true_eq];rw[gT];refine and_congr ⟨λh k E=>?_,λh k E=>?_⟩ (by omega);unfold d5;rw[iw,ux];exact(FR _ k (by omega)).1 (h k E);have:=h k E;unfold d5 at this;rw[iw,ux]at this;exact(FR _ k (by omega)).2 this
 have hF:qR d=true↔(∀ k,k<d.aoK.length->eK d 191 k ()=.inr ())/\(∀ k,k<d.zs.length->d6 d 191 k ()=.inr ()):=by
  unfold qR;refine an7 (m1 (r:=aj (lR d) d.aoK.length 0 ()) (a:=false) (b:=match aj (lT d) d.zs.length 0 ()with| .inl _=>false| .inr _=>true)) ?_;simp only[ak7,and_false,or_false];rw[gT];refine an7 (and_congr_right λ_=>m1) ?_;simp only[ak7,and_false,or_false,and_true];rw[gT];exact and_congr ⟨λh k E=>(IZ d k).1 (h k E),λh k E=>(IZ d k).2 (h k E)⟩ ⟨λh k E=>(I0 d k h1 h3).1 (h k E),λh k E=>(I0 d k h1 h3).2 (h k E)⟩
 unfold oc;have hb:∀ A B q:Bool,(bif A then false else bif B then false else q)=true↔A=false/\B=false/\q=true:=λA B q=>by grind
 rw[hb];refine an7 (and_congr_right λ_=>and_congr_right λ_=>an7 (m1 (r:=aj (lU d) d.ai.length 0 ()) (a:=false) (b:=match aj (lV d) d.aoF.length 0 ()with| .inl _=>false| .inr _=>true)) (or_congr_left (and_congr_right λ_=>m1))) ?_;simp only[ak7,and_false,or_false,and_true];rw[gT,gT];simp only[alC,amz,hR,hF,aS,akZ,decide_eq_true_eq,decide_eq_false_iff_not];constructor
 rintro⟨⟨⟨a1,a2⟩,a3⟩,⟨⟨W,Y⟩,O,X⟩,V,b6⟩;refine⟨by omega,by omega,Y,W,O,X,λk E=>(CX d k h2 h1 (by omega) (by omega)).1 (V k E),λk E=>(I1 d k h1 h2).1 (b6 k E)⟩;rintro⟨a1,a2,a3,W,Y,O,X,V⟩;refine⟨⟨⟨by omega,by omega⟩,by omega⟩,⟨⟨W,a3⟩,Y,O⟩,λk E=>(CX d k h2 h1 (by omega) (by omega)).2 (X k E),λk E=>(I1 d k h1 h2).2 (V k E)⟩
theorem VY (d:ah):aw d=lW d:=by
 have X:=qT d;unfold lW;by_cases E:d.reaches.length<=64/\d.zs.length<=600/\d.aoK.length<=32/\d.ai.length<=256/\d.aoF.length<=256
 have O:(((((decide ((d.reaches.length:Int) > 64)) ||(decide ((d.zs.length:Int) > 600))) ||(decide ((d.aoK.length:Int) > 32))) ||(decide ((d.ai.length:Int) > 256))) ||(decide ((d.aoF.length:Int) > 256)))=false:=by
  grind
 rw[O];simp only[cond_false];have W:=Na d E.1 E.2.1 E.2.2.1;cases h:oc d with
 |true=>grind
 |false=>
  have V:aw d≠0:=λe=>by
   grind
  unfold aw at V |-;simp only[iw]at V |-;grind
 have O:(((((decide ((d.reaches.length:Int) > 64)) ||(decide ((d.zs.length:Int) > 600))) ||(decide ((d.aoK.length:Int) > 32))) ||(decide ((d.ai.length:Int) > 256))) ||(decide ((d.aoF.length:Int) > 256)))=true:=by
  grind
 grind [aw,iw]
def VZ (x:W1×W1):oR x:=⟨xX _,λ_=>xX _,λ_=>PC _ _⟩
def YT (x:Reach):ql x:=λ_ _=>VZ _
def SO (d:ah):qm d:=λ_=>g8 _ _ _ λ_ _ _ _ _ _=>YT _
def SP (d:ah):qn d:=λ_ _=>SO d
end Go.Sx
end
