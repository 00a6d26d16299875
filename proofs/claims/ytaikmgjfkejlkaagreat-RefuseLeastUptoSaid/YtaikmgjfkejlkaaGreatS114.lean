/- Part of the proof that the law RefuseLeast returns true and leaves its arguments as they were, for all arguments of bulk at most 1048576 (the Upto form). -/
import Derived.Test.YtaikmgjfkejlkaaGreatS108
import Derived.Test.YtaikmgjfkejlkaaGreatS109
import Derived.Test.YtaikmgjfkejlkaaGreatS107
import Derived.Test.YtaikmgjfkejlkaaGreatS112
import Derived.Test.YtaikmgjfkejlkaaGreatS111
import Derived.Test.YtaikmgjfkejlkaaGreatS113
import Derived.Shelf.SlSortCmp.NoneTotal
import Derived.Ground.SlsfProg
import Derived.Test.YtaikmgjfkejlkaaGreatS103
import Derived.Test.YtaikmgjfkejlkaaGreatProg
import Derived.Test.YtaikmgjfkejlkaaGreatS110
set_option linter.all false
set_option maxHeartbeats 4000000
set_option maxRecDepth 100000
section
namespace Go.Sx
open Go.Proofs Go.RowKit
open IntKind (i64)
@[go_sem] noncomputable def Zx:List SV->Option Con:=(pR .int λl=>(pE (.det True (.rc .int l))))
def WX:zs Tryz.prog 71 Zx:=by
 refine fE (mG C1 C1) Tryz.f71 (bD λl=>(am (λE=>?_)));dsimp only[an]at E;refine⟨Y2 rfl,L0,ag _,?_⟩;unfold ae Tryz.f71;exact zq2
def chz:Nat->List Int->List Int->List (List Int)
 |0,s,_=>[s]|_+1,_,[] =>[]|n+1,s,x::l=>if l.length<n then []else chz n (s++[x]) l++chz (n+1) s l
theorem AV (s l:List Int):chz 0 s l=[s]:=by cases l <;>rfl
theorem Jo:∀ (n:Nat) (s l:List Int),l.length<n->chz n s l=[]
 |0,_,_,h=>by omega
 |_+1,_,[],_=>rfl
 |n+1,s,x::l,h=>by
  simp_all [chz]
theorem GQ (n:Nat)(s:List Int)(l:List Int)(k:Nat)(E:k<l.length):chz (n+1) s (l.drop k)=if l.length - k<n+1 then []else chz n (s++[l.getD k 0]) (l.drop (k+1))++chz (n+1) s (l.drop (k+1)):=by
 have e:l.drop k=l.getD k 0::l.drop (k+1):=by
  simp_all
 rw[e];simp only[chz,amQ];grind
def chc (n:Nat)(s l:List Int)(k:Nat):Nat:=(chz (n+1) s l).length - (chz (n+1) s (l.drop k)).length
def Ll (n:Nat)(s l:List Int):∀ k,k<=l.length->chz (n+1) s (l.drop k) <:+chz (n+1) s l
 |0,_=>by simp
 |k+1,h=>by
  refine List.IsSuffix.trans ?_ (Ll n s l k (by omega));grind [GQ,Jo]
def WY (n:Nat)(s l:List Int):chc n s l 0=0:=by simp[chc]
def WZ (n:Nat)(s l:List Int)(k:Nat)(E:k<l.length)(h:¬l.length - k<n+1):chc n s l (k+1)=chc n s l k+(chz n (s++[l.getD k 0]) (l.drop (k+1))).length:=by
 have h1:=(Ll n s l k (by omega)).length_le;unfold chc;rw[GQ n s l k E,if_neg h]at h1 |-;grind
def RE (n:Nat)(s l:List Int)(k:Nat)(h:l.length - k<n+1):chc n s l k=(chz (n+1) s l).length:=by
 grind [chc,Jo]
def Zy (n:Nat)(s l:List Int)(k:Nat)(O:k<l.length)(h:¬l.length - k<n+1)(j:Nat)(y:List Int)(hy:(chz n (s++[l.getD k 0]) (l.drop (k+1)))[j]? =some y):(chz (n+1) s l)[chc n s l k+j]? =some y:=by
 obtain⟨p,E⟩:=Ll n s l k (by omega);have hc:chc n s l k=p.length:=by grind [chc]
 rw[hc,<-E,anF (by omega),anU,GQ n s l k O,if_neg h,anJ (alM.1 hy).1];exact hy
def chK (p:Prop)(r:RF)(k m:Nat)(h0 h2:Ob):apd:= { α:=Bool,pre:=p,post:=λ_=>True,res:=λb=>.ret (.v (.bool b)) [h0,.ab (r.1 (if b then k+m+1 else 0)),h2]}
def Tp {ids:List Nat}{d:Option Nat}{st:St}{K:St->Prop}{Z:Value->St->Prop}{p:Prop}{r:RF}{k m:Nat}{h0 h2:Ob}:yC ids d st K Z (some (chK p r k m h0 h2))=(p/\JK ids d st K Z (.ret (.v (.bool true)) [h0,.ab (r.1 (k+m+1)),h2])/\JK ids d st K Z (.ret (.v (.bool false)) [h0,.ab (r.1 0),h2])):=by
 apply propext;constructor
 rintro⟨h1,h2⟩;exact⟨h1,h2 true trivial,h2 false trivial⟩;rintro⟨h1,h2,h3⟩;refine⟨h1,λb _=>?_⟩;cases b;exact h3;exact h2
attribute [go_sem] Tp
abbrev chF:Ob:=.cells [.fn 70 [] [.ptr 0 0,.ptr 2 0]]
@[go_sem high]def aif {x:Res}:reach [.cells [.os 1],.ab x,.cells [.fn 70 [] [.ptr 0 0,.ptr 2 0]]] 64 [0,2] []=[0,1,2]:=(rfl)
def chP (items:List (List SV))(n:Nat)(x:List Int×List Int×Nat):Prop:=x.1.length+n<=1000/\x.2.1.length<=1000/\∀ j y,(chz n x.1 x.2.1)[j]? =some y->items[x.2.2+j]? =some [.rs .int y]
noncomputable def W0 (items:List (List SV))(r:RF)(n:Nat):List SV->List Ob->Option apd:=i7 (λx:List Int×List Int×Nat=>[.rs .int x.1,.rs .int x.2.1,.v (.int .i64 (n:Int)),.ptr 0 0,.ptr 2 0]) (λx=>[.cells [.os 1],.ab (r.1 (x.2.2+1)),chF]) (λx=>chK (chP items n x) r x.2.2 (chz n x.1 x.2.1).length (.cells [.os 1]) chF)
def RG (items:List (List SV))(r:RF)(n:Nat)(s l:List Int)(k:Nat):W0 items r n ([.rs .int s,.rs .int l,.v (.int .i64 (n:Int)),.ptr 0 0,.ptr 2 0]) ([.cells [.os 1],.ab (r.1 (k+1)),chF])=some (chK (chP items n (s,l,k)) r k (chz n s l).length (.cells [.os 1]) chF):=
 fF (A:=λx:List Int×List Int×Nat=>[.rs .int x.1,.rs .int x.2.1,.v (.int .i64 (n:Int)),.ptr 0 0,.ptr 2 0]) (H:=λx=>[.cells [.os 1],.ab (r.1 (x.2.2+1)),chF]) (K:=λx=>chK (chP items n x) r x.2.2 (chz n x.1 x.2.1).length (.cells [.os 1]) chF) (x:=(s,l,k)) (by
  grind)
def adv (items:List (List SV))(r:RF)(hy:YOk Tryz.prog (C7 items r)):ape Tryz.prog 70 (W0 items r 0):=by
 have hG:=mGY C1 C1 hy;refine oy mixed aB hG (fn:=Tryz.f70) (c:=ae Tryz.f70) kr kr kr kr λl o E h U=>?_;obtain⟨⟨s,l,k⟩,rfl,rfl,rfl⟩:=dP h;clear h;refine⟨Y2 rfl,L0,ag _,?_⟩;unfold ae Tryz.f70;have O:=U.2.2 0 s (by grind [AV]);simp only[go_sem];refine⟨λ_=>⟨by omega,?_,?_⟩,λh=>absurd h (by decide)⟩;refine⟨true,_,_,[0,1,2],trivial,rfl,?_⟩;simp only[go_sem,AV,alL,alS,if_true,alQ];refine⟨false,_,_,[0,1,2],trivial,rfl,?_⟩;simp only[go_sem,alO,if_false]
def W3 {c:Nat->Bool}{x:Nat}:∀ (m k:Nat),aj (λj (_:Unit) =>bif c j then(.inl j:Nat⊕Unit)else .inr ()) m k ()=.inl x->x<k+m/\c x=true
 |0,_,h=>by cases h
 |m+1,k,h=>by
  simp only[aj]at h;cases hc:c k with
  |true=>grind|false=>rw[hc]at h;have:=W3 m (k+1) h;grind
def adw (items:List (List SV))(r:RF)(hy:YOk Tryz.prog (C7 items r))(n:Nat)(ih:ape Tryz.prog 70 (W0 items r n)):ape Tryz.prog 70 (W0 items r (n+1)):=by
 have hG:=mGY (cp WX C1) (co ih C1) hy;refine oy mixed aB hG (fn:=Tryz.f70) (c:=ae Tryz.f70) kr kr kr kr λl o con h E=>?_;obtain⟨⟨s,l,k⟩,rfl,rfl,rfl⟩:=dP h;clear h;have hz:(((n+1:Nat):Int) ==0)=false:=by simp;omega
 obtain⟨hs,hl,E⟩:=E;simp only at hs hl E;have hl2:l.length<=aH:=by unfold aH;omega
 have O:i64.wrap (((n+1:Nat):Int) - 1)=(n:Int):=by grind [aA]
 refine⟨Y2 rfl,λid st=>bif Nat.beq id 0 then some (LCY (ρ:=Nat) (σ:=Unit) 3 [] [0,1,2] (λj _=>⟨[(0,.rs .int s),(1,.rs .int l),(2,.v (.int .i64 ((n+1:Nat):Int))),(3,.ptr 0 0),(4,.ptr 2 0),(16,.v (.int .i64 (l.length:Int))),(17,.v (.int .i64 (j:Int)))],[.cells [.os 1],.ab (r.1 (k+chc n s l j+1)),chF]⟩) (λj _=>bif decide (i64.wrap ((l.length:Int) - (j:Int)) < ((n+1:Nat):Int))then .inl j else .inr ()) (λ_ _=>True) l.length () True (λ_=>.normal) (λj=>⟨[],[.cells [.os 1],.ab (r.1 (k+chc n s l j+1)),chF]⟩) ⟨[(8,.v (.bool false))],[.cells [.os 1],.ab (r.1 0),chF]⟩ st)else none,?_,?_⟩;unfold ae Tryz.f70;simp only[ak,true_and,and_true];refine sL mixed aB hG kr (λ_=>rfl) l.length rfl (λ_=>by omega) (λ_ j _ hlt _ hw hc=>⟨L0,ag _,?_⟩) (λ_ _ hc=>?_);simp only[go_sem,hc,hw,O,RG,ano];intro hb;have hwj:i64.wrap ((l.length:Int) - (j:Int))=(l.length:Int) - (j:Int):=by grind [aA]
 refine⟨λh1=>?_,λh2=>?_⟩;rw[h1];simp only[go_sem];exact fk (jl [0,1,2]);have X:¬l.length - j<n+1:=by
  grind
 have W:=WZ n s l j hlt X;refine⟨⟨by omega,by omega⟩,by grind [dI],λ_=>⟨⟨by omega,by omega,by omega⟩,by rfl,⟨?_,?_,?_⟩,?_,?_⟩⟩;grind
 grind
 intro i y hy;have:=E _ _ (Zy n s l j hlt X i y hy);grind
 rw[h2];simp only[go_sem,W,<-am7];exact fk (jl [0,1,2]);exact .inr (fk (jl [0,1,2]));simp only[go_sem,hc];exact fk (jl [0,1,2]);unfold ae Tryz.f70;simp only[go_sem,hz];intro _;refine⟨⟨⟨rfl,by rw[WY]⟩,gX _ _ _ λ_ _ _ _=>trivial⟩,λx Y=>?_,λ_ Y=>?_,?_⟩;obtain⟨hx1,V⟩:=W3 (c:=λj=>decide (i64.wrap ((l.length:Int) - (j:Int)) < ((n+1:Nat):Int))) _ _ Y;have U:=of_decide_eq_true V;rw[aA (by omega) (by omega)]at U;refine⟨true,_,_,[0,1,2],trivial,rfl,?_⟩;rw[RE n s l x (by omega)];simp only[go_sem,if_true];refine⟨true,_,_,[0,1,2],trivial,rfl,?_⟩;rw[RE n s l l.length (by omega)];simp only[go_sem,if_true];refine⟨false,_,_,[0,1,2],trivial,rfl,?_⟩;simp only[go_sem,alO,if_false]
def aaH (items:List (List SV))(r:RF)(hy:YOk Tryz.prog (C7 items r)):∀ n,ape Tryz.prog 70 (W0 items r n)
 |0=>adv items r hy|n+1=>adw items r hy n (aaH items r hy n)
noncomputable def W4 (items:List (List SV))(r:RF):List SV->List Ob->Option apd:=i7 (λx:List Int×Nat×Nat=>[.v (.slice none 0 0),.rs .int x.1,.v (.int .i64 (x.2.1:Int)),.ptr 0 0,.ptr 2 0]) (λx=>[.cells [.os 1],.ab (r.1 (x.2.2+1)),chF]) (λx=>chK (chP items x.2.1 ([],x.1,x.2.2)) r x.2.2 (chz x.2.1 [] x.1).length (.cells [.os 1]) chF)
@[go_sem]def aig {items:List (List SV)}{r:RF}{n k:Nat}{l:List Int}:W4 items r ([.v (.slice none 0 0),.rs .int l,.v (.int .i64 (n:Int)),.ptr 0 0,.ptr 2 0]) ([.cells [.os 1],.ab (r.1 (k+1)),.cells [.fn 70 [] [.ptr 0 0,.ptr 2 0]]])=some (chK (chP items n ([],l,k)) r k (chz n [] l).length (.cells [.os 1]) chF):=
 fF (A:=λx:List Int×Nat×Nat=>[.v (.slice none 0 0),.rs .int x.1,.v (.int .i64 (x.2.1:Int)),.ptr 0 0,.ptr 2 0]) (H:=λx=>[.cells [.os 1],.ab (r.1 (x.2.2+1)),chF]) (K:=λx=>chK (chP items x.2.1 ([],x.1,x.2.2)) r x.2.2 (chz x.2.1 [] x.1).length (.cells [.os 1]) chF) (x:=(l,n,k)) (by
  grind)
def adx (items:List (List SV))(r:RF)(hy:YOk Tryz.prog (C7 items r)):ape Tryz.prog 70 (W4 items r) where
 enter:=λl h c hc=>by
  simp_all
 calls:=λl h c hc V F own w vs U O=>by
  obtain⟨⟨a,n,k⟩,rfl,rfl,rfl⟩:=dP hc;refine(aaH items r hy n).calls _ _ _ (RG items r n [] a k) V F own w vs U ⟨O.1,λj s E=>?_⟩;match j,E with
  |0,E=>
   cases E;have h:=O.2 0 _ rfl;generalize vs.getD 0 undef=u at h |-;cases h;exact .rs0
  |j+1,E=>exact O.2 (j+1) s E
@[go_sem high]def afI {x:Res}:reach [.ab x,.cells [.os 0],.cells [.fn 70 [] [.ptr 1 0,.ptr 2 0]]] 64 [1,2] []=[1,0,2]:=(rfl)
end Go.Sx
end
section
namespace Go.Sx
open Go.Proofs
open IntKind (i64)
@[go_sem] def W5 (x:List Int):List SV:=[.rs .int x]
@[go_sem] def Ib:List SV->Option Con:=(pR .int λl_=>(pE (.det True (.fn 69 [] [.ep [.rs .int l_] 0]))))
def GR:zs Tryz.prog 30 Ib:=by
 have hG:=mG C1 C1;refine fN hG Tryz.f30 [.o] (bD λE=>(am (λO=>?_)));refine⟨Y2 rfl,L0,ag _,?_⟩;unfold ae Tryz.f30;simp only[go_sem,oA,oB,Nat.reduceBEq,Nat.reduceLeDiff,Nat.reduceAdd,Nat.reduceSub,Nat.reduceMul]
@[go_sem] def jZ (l_:List Int)(Q1:Nat)(ly:List (List Int)):Empty⊕(List (List Int)):=.inr (ly++(chz Q1 [] l_))
def ku (l_:List Int)(api:List (List SV))(Q1:Nat)(ly:List (List Int)):Prop:=(chP api Q1 ([],l_,ly.length))
def ef (l_:List Int):List (List Int):=(match aj (jZ l_) (Int.toNat (i64.wrap ((l_.length:Int)+1))) 0 ([]:List (List Int))with| .inl x=>x.elim| .inr ly=>ly)
def kI (l_:List Int)(api:List (List SV)):Prop:=letI q0:=i64.wrap ((l_.length:Int)+1);letI q1:=jZ l_;(l_.length<=aH->((q0<9223372036854775808)/\okI q1 (ku l_ api) (Int.toNat q0) 0 ([]:List (List Int))/\(∀ ly,aj q1 (Int.toNat q0) 0 ([]:List (List Int))=.inr ly->(api.length=ly.length))))
def Ck (O:List Int)(E:List (List SV))(hp:kI O E):Af Tryz.prog 69 (λy=>[y,.ep [.rs .int O] 0]) [] E:=by
 unfold kI at hp;refine Bw mixed aB (fn:=Tryz.f69) (c:=ae Tryz.f69) kr kr kr kr rfl (n:=0) rfl (G:=λV=>Ag [] [(70,(W4 E V))] (C7 E V)) (λV hy=>?_) (λargs w=>by kernel_rfl);have hG:=mGY C1 (co (adx E V hy) C1) hy;refine⟨hG,Y2 rfl,(λid st=>bif Nat.beq id 0 then some (LCY (ρ:=Empty) (σ:=(List (List Int))) 3 [] [0,1,2] (λX U=>⟨[(1,.ep [.rs .int O] 0),(3,.ptr 2 0),(8,.v (.int .i64 (i64.wrap ((O.length:Int)+1)))),(9,.v (.int .i64 (X:Int)))],[.ab (V.1 (U.length+1)),.cells [.os 0],.cells [.fn 70 [] [.ptr 1 0,.ptr 2 0]]]⟩) (jZ O) (ku O E) (Int.toNat (i64.wrap ((O.length:Int)+1))) ([]:List (List Int)) ((i64.wrap ((O.length:Int)+1)) <9223372036854775808) ((·.elim)) ((·.elim)) ⟨[],[.ab (V.1 0),.dead,.dead]⟩ st)else none),?_,?_⟩;unfold ae Tryz.f69;simp only[ak,true_and,and_true];refine sL mixed aB hG kr (λ_=>rfl) (i64.wrap ((O.length:Int)+1)) rfl id (λhb0 X U Y W hw hc=>⟨L0,ag _,?_⟩) (λhb0 U hc=>?_);unfold ku at W;try simp only[hw,alI]at W
 exact oK (jl [0,1,2]);exact oL (jl [0,1,2]);unfold ae Tryz.f69;exact M0 (jl [0])
variable {l0:List Nat}{p:Prop}
theorem NV(a0:JL l0)(h:JL l0->p:=by intro ja;(first|done|(repeat' (first|with_reducible refine And.intro ?_ ?_|((with_reducible show _≠_);first|assumption|omega|(simp_all [ci,d8];done) |grind) |with_reducible intro _)) <;>(first|done|with_reducible exact Empty.elim ‹Empty› |with_reducible assumption|rfl|omega|assumption|decide|exact fk ja|(simp only[*,cond_true,cond_false,alZ,amd,go_sem];done) |(simp only[*,cond_true,cond_false,alZ,amd,go_sem];(repeat' (first|with_reducible refine And.intro ?_ ?_|((with_reducible show _≠_);first|assumption|omega|(simp_all [ci,d8];done) |grind) |with_reducible intro _)) <;>(first|done|assumption|rfl|omega|decide|exact fk ja|(simp_all [ci,d8];done))) |(simp_all [okI,ci,d8];done) |(simp_all [ci,d8];(first|done|exact fk2 ja)) |exact fk2 ja|(simp_all only[ci,d8,cond_true,cond_false,ant,aoh];(first|done|exact fk ja|exact fk2 ja|(simp only[go_sem];((repeat' (first|with_reducible refine And.intro ?_ ?_|((with_reducible show _≠_);first|assumption|omega|(simp_all [ci,d8];done) |grind) |with_reducible intro _)) <;>(first|done|rfl|exact fk ja|exact fk2 ja)))))))):p:=h a0
variable {l1:List Nat}
theorem GS(a0:JL l0)(a1:JL l1)(h:JL l0->JL l1->p:=by intro ja jb;(first|done|(repeat' (first|with_reducible refine And.intro ?_ ?_|((with_reducible show _≠_);first|assumption|omega|(simp_all [ci,d8];done) |grind) |with_reducible intro _)) <;>(first|done|with_reducible exact Empty.elim ‹Empty› |with_reducible assumption|rfl|omega|assumption|decide|exact fk ja|exact fk jb|(simp only[*,cond_true,cond_false,alZ,amd,go_sem];done) |(simp only[*,cond_true,cond_false,alZ,amd,go_sem];(repeat' (first|with_reducible refine And.intro ?_ ?_|((with_reducible show _≠_);first|assumption|omega|(simp_all [ci,d8];done) |grind) |with_reducible intro _)) <;>(first|done|assumption|rfl|omega|decide|exact fk ja|exact fk jb|(simp_all [ci,d8];done))) |(simp_all [okI,ci,d8];done) |(simp_all [ci,d8];(first|done|exact fk2 ja|exact fk2 jb)) |exact fk2 ja|exact fk2 jb|(simp_all only[ci,d8,cond_true,cond_false,ant,aoh];(first|done|exact fk ja|exact fk jb|exact fk2 ja|exact fk2 jb|(simp only[go_sem];((repeat' (first|with_reducible refine And.intro ?_ ?_|((with_reducible show _≠_);first|assumption|omega|(simp_all [ci,d8];done) |grind) |with_reducible intro _)) <;>(first|done|rfl|exact fk ja|exact fk jb|exact fk2 ja|exact fk2 jb)))))))):p:=h a0 a1
theorem GU(a0:JL l0)(h:JL l0->p:=by intro ja;simp only[go_sem,hc,hw];all_goals exact NV ja):p:=h a0
theorem GV(a0:JL l0)(h:JL l0->p:=by intro ja;simp only[go_sem,hc];all_goals exact NV ja):p:=h a0
theorem W6(a0:JL l0)(a1:JL l1)(h:JL l0->JL l1->p:=by intro ja jb;simp only[go_sem];all_goals exact GS ja jb):p:=h a0 a1
theorem W7(a0:JL l0)(a1:JL l1)(h:JL l0->JL l1->p:=by intro ja jb;simp only[go_sem,hc,hw];all_goals exact GS ja jb):p:=h a0 a1
theorem W8(a0:JL l0)(a1:JL l1)(h:JL l0->JL l1->p:=by intro ja jb;simp only[go_sem,hc];all_goals exact GS ja jb):p:=h a0 a1
@[go_sem] def kv (s_:x4)(Q1:Nat)(ly:List ((Int×Int)×Int)):Empty⊕(List ((Int×Int)×Int)):=letI q1:=s_.c.getD Q1 default;letI q0:=((s_.d.l5.getD (Int.toNat (q1.dd)) default).reach,q1.hour);.inr (dH .apc .int ly q0 (i64.wrap ((aL .apc .int ly q0)+q1.bo)))
def gI (s_:x4)(Q1:Nat)(ly:List ((Int×Int)×Int)):Prop:=(0<=(s_.c.getD Q1 default).dd/\(s_.c.getD Q1 default).dd< (s_.d.l5.length:Int))
def cy (s_:x4):List ((Int×Int)×Int):=(match aj (kv s_) s_.c.length 0 ([])with| .inl x=>x.elim| .inr ly=>ly)
def gq (s_:x4):Prop:=(s_.c.length<=aH->okI (kv s_) (gI s_) s_.c.length 0 ([]))
@[go_sem] def wx:List SV->Option Con:=(pD .x5 λs_=>(pE (.det (gq s_) (.nm .apc .int (cy s_)))))
theorem pb:zs Tryz.prog 83 wx:=by
 have hG:=mG C1 C1;refine fE hG Tryz.f83 (ax λE=>(am (λX=>?_)));dsimp only[an]at X;unfold gq at X;refine⟨Y2 rfl,(λid st=>bif Nat.beq id 0 then some (LCR (ρ:=Empty) (σ:=(List ((Int×Int)×Int))) 2 [] [0,1] (λV O=>⟨[(1,.ptr 0 0),(3,.os 1),(8,.rs .x6 E.c),(9,.v (.int .i64 (E.c.length:Int))),(10,.v (.int .i64 (V:Int)))],[.cells (cellsOf .x5 E),.mp .apc .int O none]⟩) (kv E) (gI E) E.c.length ([]) (E.c.length<=aH) ((·.elim)) ((·.elim)) st)else none),?_,?_⟩;unfold ae Tryz.f83;simp only[ak,true_and,and_true];refine bL mixed aB hG kr (λ_=>rfl) (E.c.length:Int) rfl fj (λhb0 V O W U hw hc=>⟨L0,ag _,?_⟩) (λhb0 O hc=>?_);unfold gI at U;try simp only[hw,alI]at U
 exact GU (jl [0,1]);exact GV (jl [0,1]);unfold ae Tryz.f83;try unfold cy
 exact zq2
@[go_sem] def dE (a0:x4)(ly:List S1×List ((Int×Int)×Int)×List ((Int×Int)×Bool)×Int)(k_1:Nat)(s_1:List S1×List ((Int×Int)×Int)×List ((Int×Int)×Bool)):Empty⊕(List S1×List ((Int×Int)×Int)×List ((Int×Int)×Bool)):=letI q0:=a0.d.reaches.getD (Int.toNat ly.2.2.2) default;letI q2:=i64.wrap ((k_1:Int) - q0.delay);letI q9:=(ly.2.2.2,(k_1:Int));letI q1:=aL .apc .int s_1.2.1 q9;letI q7:=fH q0 q1;letI q3:=if q7.1<q0.apl then q0.apl else q7.1;letI q5:=s_1.1++([({ reach:=ly.2.2.2,hour:=q2,bo:=q3,wanted:=q1}:S1)]);letI q8:= !(aL .apc .bool s_1.2.2 q9);letI qb:=(q0.up,q2);letI q4:=dH .apc .int s_1.2.1 qb (i64.wrap ((aL .apc .int s_1.2.1 qb)+q3));letI q6:=dH .apc .bool s_1.2.2 qb true;letI qa:=(s_1.1,s_1.2.1,q6);(bif((q1==0)&&q8)then .inr (s_1.1,s_1.2.1,s_1.2.2)else(bif(q8&&(decide (q1<=1073741824)))then(bif(q7.2.1&&(decide (q2>=0)))then(bif q7.2.1 then .inr (q5,q4,s_1.2.2)else .inr (q5,s_1.2.1,q6))else(bif q7.2.1 then .inr (s_1.1,q4,s_1.2.2)else .inr qa))else .inr qa))
def f7 (a0:x4)(ly:List S1×List ((Int×Int)×Int)×List ((Int×Int)×Bool)×Int)(k_1:Nat)(s_1:List S1×List ((Int×Int)×Int)×List ((Int×Int)×Bool)):Prop:=letI q0:=a0.d.reaches.getD (Int.toNat ly.2.2.2) default;letI q3:=i64.wrap ((k_1:Int) - q0.delay);letI q5:=(ly.2.2.2,(k_1:Int));letI q1:=aL .apc .int s_1.2.1 q5;letI q2:= !(aL .apc .bool s_1.2.2 q5);letI q4:=fH q0 q1;(((q1==0)&&q2)=false->((q2&&(decide (q1<=1073741824)))=true->((kS q0 q1)/\((q4.2.1&&(decide (q3>=0)))=true->((s_1.1++([({ reach:=ly.2.2.2,hour:=q3,bo:=(if q4.1<q0.apl then q0.apl else q4.1),wanted:=q1}:S1)])).length*32<=dI)))))
@[go_sem] def fw (a0:x4)(Q1:Nat)(ly:List S1×List ((Int×Int)×Int)×List ((Int×Int)×Bool)×Int):(List S1)⊕(List S1×List ((Int×Int)×Int)×List ((Int×Int)×Bool)×Int):=(bif(decide (ly.2.2.2>=0))then(match aj (dE a0 ly) (Int.toNat a0.d.hours) 0 (ly.1,ly.2.1,ly.2.2.1)with| .inl x=>x.elim| .inr s_1=>.inr (s_1.1,s_1.2.1,s_1.2.2,(i64.wrap (ly.2.2.2 - 1))))else .inl ly.1)
def eT (a0:x4)(Q1:Nat)(ly:List S1×List ((Int×Int)×Int)×List ((Int×Int)×Bool)×Int):Prop:=((decide (ly.2.2.2>=0))=true->((0<=ly.2.2.2/\ly.2.2.2< (a0.d.reaches.length:Int))/\((a0.d.hours<9223372036854775808)/\okI (dE a0 ly) (f7 a0 ly) (Int.toNat a0.d.hours) 0 (ly.1,ly.2.1,ly.2.2.1))))
def dK (a0:x4):List S1:=(match aj (fw a0) (a0.d.reaches.length+1) 0 ([],(cy a0),[],(i64.wrap ((a0.d.reaches.length:Int) - 1)))with| .inl gl=>gl| .inr ly=>default)
def ig (a0:x4):Prop:=letI q0:=i64.wrap ((a0.d.reaches.length:Int) - 1);letI q1:=fw a0;letI q2:=a0.d.reaches.length+1;letI q3:=cy a0;((gq a0)/\(a0.d.reaches.length<=aH->(okI q1 (eT a0) q2 0 ([],q3,[],q0)/\(∀ z_,aj q1 q2 0 ([],q3,[],q0)≠ .inr z_))))
@[go_sem] def uY:List SV->Option Con:=(pD .x5 λa0=>(pE (.det (ig a0) (.rs .aoY (dK a0)))))
theorem uf:zs Tryz.prog 36 uY:=by
 have hG:=mG (cn [.st .x5] pb (cp s6 C1)) C1;refine fN hG Tryz.f36 [.sl .aoY] (ax λa0=>(am (λhp=>?_)));dsimp only[an]at hp;unfold ig at hp;refine⟨Y2 rfl,(λid st=>bif Nat.beq id 0 then some (LCV (ρ:=(List S1)) (σ:=(List S1×List ((Int×Int)×Int)×List ((Int×Int)×Bool)×Int)) 3 [.slot 2 (.row .aoY ([]))] [0,1,2,3] (λW E=>⟨[(1,.ptr 0 0),(2,.os 3),(3,.os 1),(4,.os 2),(5,.v (.int .i64 E.2.2.2))],[.cells (cellsOf .x5 a0),.mp .apc .int E.2.1 none,.mp .apc .bool E.2.2.1 none,.row .aoY E.1]⟩) (fw a0) (eT a0) (a0.d.reaches.length+1) ([],(cy a0),[],(i64.wrap ((a0.d.reaches.length:Int) - 1))) (λ_=>.normal) (λU=>⟨[(2,.os 3)],[.dead,.dead,.dead,.row .aoY U]⟩) st)else none),?_,?_⟩;unfold ae Tryz.f36;simp only[ak,true_and,and_true];refine eJ mixed aB hG kr (λ_=>rfl) λW E X=>⟨(λid st=>bif Nat.beq id 2 then some (LCR (ρ:=Empty) (σ:=(List S1×List ((Int×Int)×Int)×List ((Int×Int)×Bool))) 5 [] [0,1,2,3,4,3] (λV O=>⟨[(1,.ptr 0 0),(2,.os 5),(3,.os 1),(4,.os 2),(5,.v (.int .i64 E.2.2.2)),(6,.ptr 4 0),(32,.v (.int .i64 a0.d.hours)),(33,.v (.int .i64 (V:Int)))],[.cells (cellsOf .x5 a0),.mp .apc .int O.2.1 none,.mp .apc .bool O.2.2 none,.dead,.cells (cellsOf .reach (a0.d.reaches.getD (Int.toNat E.2.2.2) (default:Reach))),.row .aoY O.1]⟩) (dE a0 E) (f7 a0 E) (Int.toNat a0.d.hours) (E.1,E.2.1,E.2.2.1) (a0.d.hours<9223372036854775808) ((·.elim)) ((·.elim)) st)else none),?_,?_⟩;simp only[ak,true_and,and_true];refine bL mixed aB hG kr (λ_=>rfl) a0.d.hours rfl id (λhb1 V O Y hq1 hw hc=>⟨L0,ag _,?_⟩) (λhb1 O hc=>?_);unfold f7 at hq1;try simp only[hw,alI]at hq1
 exact W7 (jl [0,1,2,3,4,5]) (jl [0,1,2,3,4,9]);exact W8 (jl [0,1,2,3,4,5]) (jl [0,1,2,3,4,9]);unfold eT at X;exact W6 (jl [0,1,2,5]) (jl [0,1,2,3]);unfold ae Tryz.f36;try unfold dK
 exact zq2
@[go_sem] def eU (a0:x4)(a1:List S1)(Q1:Nat)(ly:List ((Int×Int)×Int)×List ((Int×Int)×Bool)):Unit⊕(List ((Int×Int)×Int)×List ((Int×Int)×Bool)):=letI q0:=a1.getD Q1 default;letI q1:=((a0.d.reaches.getD (Int.toNat (q0.reach)) default).up,q0.hour);letI q2:=(q0.reach,q0.hour);(bif((((!(du (q0.reach) 0 (i64.wrap ((a0.d.reaches.length:Int) - 1)))) ||(!(du (q0.hour) 0 (i64.wrap (a0.d.hours - 1))))) ||(!(du (q0.bo) 1 1073741824))) ||(aL .apc .bool ly.2 q2))then .inl ()else .inr ((dH .apc .int ly.1 q1 (i64.wrap ((aL .apc .int ly.1 q1)+q0.bo))),(dH .apc .bool ly.2 q2 true)))
def iz (a0:x4)(a1:List S1)(Q1:Nat)(ly:List ((Int×Int)×Int)×List ((Int×Int)×Bool)):Prop:=letI q0:=a1.getD Q1 default;letI q1:=(a0.d.reaches.length:Int);(a0.d.reaches.length<=aH->(((((!(du (q0.reach) 0 (i64.wrap (q1 - 1)))) ||(!(du (q0.hour) 0 (i64.wrap (a0.d.hours - 1))))) ||(!(du (q0.bo) 1 1073741824))) ||(aL .apc .bool ly.2 (q0.reach,q0.hour)))=false->(0<=q0.reach/\q0.reach<q1)))
@[go_sem] def mg (a0:x4)(a1:List S1)(ly:List ((Int×Int)×Int)×List ((Int×Int)×Bool))(k_1:Nat)(s_1:Unit):Unit⊕Unit:=letI q0:=a1.getD k_1 default;letI q1:=a0.d.reaches.getD (Int.toNat (q0.reach)) default;(bif(((decide (q0.wanted<=0)) ||(q0.wanted !=(aL .apc .int ly.1 (q0.reach,(i64.wrap (q0.hour+q1.delay)))))) ||((q0.bo !=q1.apl)&&(decide ((o8 q1 (i64.wrap (q0.bo - 1))).1>=q0.wanted))))then .inl ()else .inr ())
def iA (a0:x4)(a1:List S1)(ly:List ((Int×Int)×Int)×List ((Int×Int)×Bool))(k_1:Nat)(s_1:Unit):Prop:=(0<=(a1.getD k_1 default).reach/\(a1.getD k_1 default).reach< (a0.d.reaches.length:Int))
def eE (a0:x4)(a1:List S1):List ((Int×Int)×Int)×Bool:=(match aj (eU a0 a1) a1.length 0 ((cy a0),[])with| .inl gl=>([],false) | .inr ly=>(match aj (mg a0 a1 ly) a1.length 0 ()with| .inl apR=>([],false) | .inr s_1=>(ly.1,true)))
def jM (a0:x4)(a1:List S1):Prop:=letI q0:=((cy a0),[]);letI q1:=eU a0 a1;((gq a0)/\(a1.length<=aH->(okI q1 (iz a0 a1) a1.length 0 q0/\(∀ ly,aj q1 a1.length 0 q0=.inr ly->(a1.length<=aH->okI (mg a0 a1 ly) (iA a0 a1 ly) a1.length 0 ())))))
@[go_sem] def yx:List SV->Option Con:=(pD .x5 λa0=>(pR .aoY λa1=>(pE (.det (jM a0 a1) (.tup [.rm .apc .int ((eE a0 a1).1),.v (.bool ((eE a0 a1).2))])))))
theorem xB:zs Tryz.prog 45 yx:=by
 have hG:=mG (cp pH (cp wc (cn [.st .x5] pb C1))) C1;refine fN hG Tryz.f45 [.mp .apc .int,.o] (ax λa0=>(bD λa1=>(am (λhp=>?_))));dsimp only[an]at hp;unfold jM at hp;refine⟨Y2 rfl,(λid st=>bif Nat.beq id 0 then some (LCR (ρ:=Unit) (σ:=(List ((Int×Int)×Int)×List ((Int×Int)×Bool))) 3 [] [0,1,2] (λO E=>⟨[(1,.rs .aoY a1),(2,.ptr 0 0),(4,.os 1),(6,.os 2),(17,.rs .aoY a1),(18,.v (.int .i64 (a1.length:Int))),(19,.v (.int .i64 (O:Int)))],[.cells (cellsOf .x5 a0),.mp .apc .int E.1 none,.mp .apc .bool E.2 none]⟩) (eU a0 a1) (iz a0 a1) a1.length ((cy a0),[]) (a1.length<=aH) (λ_=>.ret) (λY=>⟨[(4,.v (.map none)),(5,.v (.bool false))],[.dead,.dead,.dead]⟩) st)else bif Nat.beq id 2 then some (LCR (ρ:=Unit) (σ:=Unit) 3 [] [0,1,2] (λU W=>⟨[(2,.ptr 0 0),(4,.os 1),(82,.rs .aoY a1),(83,.v (.int .i64 (a1.length:Int))),(84,.v (.int .i64 (U:Int)))],[.cells (cellsOf .x5 a0),.mp .apc .int (ci (aj (eU a0 a1) a1.length 0 ((cy a0),[]))).1 none,.dead]⟩) (mg a0 a1 (ci (aj (eU a0 a1) a1.length 0 ((cy a0),[])))) (iA a0 a1 (ci (aj (eU a0 a1) a1.length 0 ((cy a0),[])))) a1.length () (a1.length<=aH) (λ_=>.ret) (λX=>⟨[(4,.v (.map none)),(5,.v (.bool false))],[.dead,.dead,.dead]⟩) st)else none),?_,?_⟩;unfold ae Tryz.f45;simp only[ak,true_and,and_true];refine⟨?_,?_⟩;refine bL mixed aB hG kr (λ_=>rfl) (a1.length:Int) rfl fj (λhb0 O E aqw V hw hc=>⟨L0,ag _,?_⟩) (λhb0 E hc=>?_);unfold iz at V;try simp only[hw,alI]at V
 exact GU (jl [0,1,2]);exact GV (jl [0,1,2]);refine bL mixed aB hG kr (λ_=>rfl) (a1.length:Int) rfl fj (λhb1 U W aqy hq1 hw hc=>⟨L0,ag _,?_⟩) (λhb1 W hc=>?_);unfold iA at hq1;try simp only[hw,alI]at hq1
 exact GU (jl [0,1,2]);exact GV (jl [0,1,2]);unfold ae Tryz.f45;try unfold eE
 exact zq2
def aD (d:ah)(l_:List bh)(fr:Int)(to:Int)(known:Int):x4×Int:=letI q0:=({ d:=({ name:=(ByteArray.mk #[]),hours:=0,apa:=({ cap:=0,start:=0}:aqg),reaches:=[],l5:=[],apg:=[],ai:=[],apb:=[],apQ:=[]}:ah),c:=[]}:x4);letI q1:=av d l_ fr to known;letI q2:=({ d:=d,c:=q1.1}:x4);letI q3:=bY d (q1.1);(bif(q1.2 !=0)then(q0,q1.2)else(bif(q3.2.2 !=0)then(q0,q3.2.2)else(bif(decide (((aq q2).length:Int) > 10))then(q0,2)else(q2,0))))
def nu (d:ah)(l_:List bh)(fr:Int)(to:Int)(known:Int):Prop:=letI q0:=av d l_ fr to known;((rb d l_ fr to known)/\((q0.2 !=0)=false->((ll d (q0.1))/\(((bY d (q0.1)).2.2 !=0)=false->(fo ({ d:=d,c:=q0.1}:x4))))))
@[go_sem] def Ic:List SV->Option Con:=(pD .al λd=>(pR .u0 λl_=>(pI λfr=>(pI λto=>(pI λknown=>(pE (.det (nu d l_ fr to known) (.tup [.agg (cellsOf .x5 ((aD d l_ fr to known).1)),.v (.int .i64 ((aD d l_ fr to known).2))]))))))))
theorem xC:zs Tryz.prog 29 Ic:=by
 have hG:=mG (cn [.st .al,.sl .u0,.o,.o,.o] AE (cn [.st .x5] kh (cn [.st .al,.sl .x6] tj C1))) C1;refine fN hG Tryz.f29 [.st .x5,.o] (ax λd=>(bD λO=>(az λfr=>(az λto=>(az λknown=>(am (λE=>?_)))))));dsimp only[an]at E;unfold nu at E;refine⟨Y2 rfl,L0,ag _,?_⟩;unfold ae Tryz.f29;try unfold aD
 exact zq2
@[go_sem] def t7 (fr:Int)(to:Int)(r:apf)(Q1:Nat)(ly:Int):Empty⊕Int:=(bif(((r.apo.getD Q1 default).reach==r.reach)&&(du ((r.apo.getD Q1 default).hour) fr to))then .inr (i64.wrap (ly+(r.apo.getD Q1 default).bo))else .inr ly)
def mh (fr:Int)(to:Int)(r:apf):Int:=(match aj (t7 fr to r) r.apo.length 0 0 with| .inl x=>x.elim| .inr ly=>ly)
@[go_sem] def Cl:List SV->Option Con:=(pI λfr=>(pI λto=>(pX .refusal λr=>(pE (.det True (.v (.int .i64 (mh fr to r))))))))
theorem pc:zs Tryz.prog 47 Cl:=by
 have hG:=mG (cp pH C1) C1;refine fN hG Tryz.f47 [.o] (az λfr=>(az λto=>(fO λr=>(am (λV=>?_)))));dsimp only[an]at V;refine⟨Y2 rfl,(λid st=>bif Nat.beq id 0 then some (LCR (ρ:=Empty) (σ:=Int) 0 [] [] (λO E=>⟨[(0,.v (.int .i64 fr)),(1,.v (.int .i64 to)),(2,.ep (cellsOf .refusal r) 0),(5,.v (.int .i64 E)),(9,.rs .aoY r.apo),(10,.v (.int .i64 (r.apo.length:Int))),(11,.v (.int .i64 (O:Int)))],[]⟩) (t7 fr to r) pT r.apo.length 0 (r.apo.length<=aH) ((·.elim)) ((·.elim)) st)else none),?_,?_⟩;unfold ae Tryz.f47;simp only[ak,true_and,and_true];refine bL mixed aB hG kr (λ_=>rfl) (r.apo.length:Int) rfl fj (λhb0 O E U _ hw hc=>⟨L0,ag _,?_⟩) (λhb0 E hc=>?_);exact bB (jl []);exact bC (jl []);unfold ae Tryz.f47;try unfold mh
 exact zq2
def tq (r1:apf)(r:apf)(x:Reach):Bool:=(decide ((mh r.hour r.hour r1) > x.cap))
@[go_sem] def Cm:List SV->Option Con:=(pXF 47 (pX .refusal λr1=>(pE ((pX .refusal λr=>(pX .reach λx=>(pE (.det True (.v (.bool (tq r1 r x)))))))))))
theorem AW:zs Tryz.prog 48 Cm:=by
 have hG:=mG (cp pc C1) C1;refine fN hG Tryz.f48 [.o] (Ai (fO λO=>(am ((fO λr=>(fO λx=>(am (λE=>?_))))))));dsimp only[an]at E;refine⟨Y2 rfl,L0,ag _,?_⟩;unfold ae Tryz.f48;try unfold tq
 exact zq2
def tt (r1:apf)(r:apf)(x:Reach):Bool:=(decide ((mh (i64.wrap ((i64.wrap (r.hour - x.delay))+1)) r.hour r1) > x.apH))
@[go_sem] def Cn:List SV->Option Con:=(pXF 47 (pX .refusal λr1=>(pE ((pX .refusal λr=>(pX .reach λx=>(pE (.det True (.v (.bool (tt r1 r x)))))))))))
theorem AX:zs Tryz.prog 49 Cn:=by
 have hG:=mG (cp pc C1) C1;refine fN hG Tryz.f49 [.o] (Ai (fO λO=>(am ((fO λr=>(fO λx=>(am (λE=>?_))))))));dsimp only[an]at E;refine⟨Y2 rfl,L0,ag _,?_⟩;unfold ae Tryz.f49;try unfold tt
 exact zq2
def tu (r:apf)(r1:apf)(d:ah):Bool:=(((r.reach==0)&&(r.hour==0))&&(decide ((mh 0 d.hours r1) > d.apa.start)))
@[go_sem] def Co:List SV->Option Con:=(pX .refusal λr=>(pXF 47 (pX .refusal λr1=>(pE ((pX .al λd=>(pE (.det True (.v (.bool (tu r r1 d)))))))))))
theorem AY:zs Tryz.prog 50 Co:=by
 have hG:=mG (cp pc C1) C1;refine fN hG Tryz.f50 [.o] (fO λr=>(Ai (fO λO=>(am ((fO λd=>(am (λE=>?_))))))));dsimp only[an]at E;refine⟨Y2 rfl,L0,ag _,?_⟩;unfold ae Tryz.f50;try unfold tu
 exact zq2
def tw (m:List ((Int×Int)×Int))(r:apf)(x:Reach):Bool:=(((decide ((aL .apc .int m (r.reach,r.hour)) > 0))&&(decide (r.hour<x.delay))) ||(decide ((aL .apc .int m (r.reach,r.hour)) > (o8 x 1073741824).1)))
@[go_sem] def Cp:List SV->Option Con:=(pXM .apc .int λm=>(pX .refusal λr=>(pX .reach λx=>(pE (.det True (.v (.bool (tw m r x))))))))
theorem AZ:zs Tryz.prog 51 Cp:=by
 have hG:=mG (cp wc C1) C1;refine fN hG Tryz.f51 [.o] (Kn λm=>(fO λr=>(fO λx=>(am (λE=>?_)))));dsimp only[an]at E;refine⟨Y2 rfl,L0,ag _,?_⟩;unfold ae Tryz.f51;try unfold tw
 exact zq2
@[go_sem] def eX (a0:ah)(a1:List bh)(a2:Int)(a3:Int)(a4:Int)(a5:apf)(Q1:Nat)(ly:Unit):Unit⊕Unit:=letI q0:=a5.ai.getD Q1 0;(bif((!(dQ (aq ((aD a0 a1 a2 a3 a4).1)) q0)) ||((decide ((Q1:Int) > 0))&&(decide (q0<=(a5.ai.getD (Int.toNat (i64.wrap ((Q1:Int) - 1))) 0)))))then .inl ()else .inr ())
def lm (a0:ah)(a1:List bh)(a2:Int)(a3:Int)(a4:Int)(a5:apf)(Q1:Nat)(ly:Unit):Prop:=letI q0:=i64.wrap ((Q1:Int) - 1);((!(dQ (aq ((aD a0 a1 a2 a3 a4).1)) (a5.ai.getD Q1 0)))=false->((decide ((Q1:Int) > 0))=true->(0<=q0/\q0< (a5.ai.length:Int))))
@[go_sem] def je (a0:ah)(a1:List bh)(a2:Int)(a3:Int)(a4:Int)(a5:apf)(k_1:Nat)(s_1:Unit):Bool⊕Unit:=letI q0:=a0.reaches.getD (Int.toNat a5.reach) default;(bif(Nat.beq k_1 0)then(bif(1==a5.kind)then .inl (tq a5 a5 q0)else .inr ())else(bif(Nat.beq k_1 1)then(bif(3==a5.kind)then .inl (tt a5 a5 q0)else .inr ())else(bif(Nat.beq k_1 2)then(bif(4==a5.kind)then .inl (tu a5 a5 a0)else .inr ())else(bif(7==a5.kind)then .inl (tw ((eE (da ((aD a0 a1 a2 a3 a4).1) a5.ai) a5.apo).1) a5 q0)else .inr ()))))
def t8 (a0:ah)(a1:List bh)(a2:Int)(a3:Int)(a4:Int)(a5:apf)(k_1:Nat)(s_1:Unit):Prop:=True
def eF (a0:ah)(a1:List bh)(a2:Int)(a3:Int)(a4:Int)(a5:apf):Bool×Int:=letI q0:=aD a0 a1 a2 a3 a4;(bif(q0.2 !=0)then(false,q0.2)else(match aj (eX a0 a1 a2 a3 a4 a5) a5.ai.length 0 ()with| .inl gl=>(false,290) | .inr ly=>(bif(((!(eE (da (q0.1) a5.ai) a5.apo).2) ||(!(du a5.reach 0 (i64.wrap ((a0.reaches.length:Int) - 1))))) ||(!(du a5.hour 0 (i64.wrap (a0.hours - 1)))))then(false,0)else(match aj (je a0 a1 a2 a3 a4 a5) 4 0 ()with| .inl apR=>(apR,0) | .inr s_1=>(false,0)))))
def iT (a0:ah)(a1:List bh)(a2:Int)(a3:Int)(a4:Int)(a5:apf):Prop:=letI q0:=aD a0 a1 a2 a3 a4;letI q1:=eX a0 a1 a2 a3 a4 a5;letI q2:=da (q0.1) a5.ai;letI q3:=(a0.reaches.length:Int);((nu a0 a1 a2 a3 a4)/\((q0.2 !=0)=false->((fo (q0.1))/\(a5.ai.length<=aH->(okI q1 (lm a0 a1 a2 a3 a4 a5) a5.ai.length 0 ()/\(∀ ly,aj q1 a5.ai.length 0 ()=.inr ly->((jo (q0.1) a5.ai)/\((jM q2 a5.apo)/\((((!(eE q2 a5.apo).2) ||(!(du a5.reach 0 (i64.wrap (q3 - 1))))) ||(!(du a5.hour 0 (i64.wrap (a0.hours - 1)))))=false->(0<=a5.reach/\a5.reach<q3))))))))))
@[go_sem] def GW:List SV->Option Con:=(pD .al λa0=>(pR .u0 λa1=>(pI λa2=>(pI λa3=>(pI λa4=>(pD .refusal λa5=>(pE (.det (iT a0 a1 a2 a3 a4 a5) (.tup [.v (.bool ((eF a0 a1 a2 a3 a4 a5).1)),.v (.int .i64 ((eF a0 a1 a2 a3 a4 a5).2))])))))))))
theorem DE:zs Tryz.prog 15 GW:=by
 have hG:=mG (cn [.st .al,.sl .u0,.o,.o,.o] xC (cn [.st .x5] kh (cn [.st .x5,.sl .int] sP (cn [.sl .int,.o] lN (cn [.st .x5,.sl .aoY] xB (cp pH (cp AW (cp AX (cp AY (cp AZ C1)))))))))) C1;refine fN hG Tryz.f15 [.o,.o] (ax λa0=>(bD λa1=>(az λW=>(az λV=>(az λU=>(ax λE=>(am (λhp=>?_))))))));dsimp only[an]at hp;unfold iT at hp;refine⟨Y2 rfl,(λid st=>bif Nat.beq id 0 then some (LCR (ρ:=Unit) (σ:=Unit) 3 [] [0,1,2] (λY ly=>⟨[(6,.ptr 0 0),(11,.ptr 1 0),(14,.ptr 2 0),(15,.rs .int (aq ((aD a0 a1 W V U).1))),(40,.rs .int E.ai),(41,.v (.int .i64 (E.ai.length:Int))),(42,.v (.int .i64 (Y:Int)))],[.cells (cellsOf .al a0),.cells (cellsOf .refusal E),.cells (cellsOf .x5 ((aD a0 a1 W V U).1))]⟩) (eX a0 a1 W V U E) (lm a0 a1 W V U E) E.ai.length () (E.ai.length<=aH) (λ_=>.ret) (λgl=>⟨[(12,.v (.bool false)),(13,.v (.int .i64 290))],[.dead,.dead,.dead]⟩) st)else bif Nat.beq id 2 then some (LC (ρ:=Bool) (σ:=Unit) (lk 11 st.t=.ptr 1 0/\lk 113 st.t=.ls 2 [.v (.int .i64 1),.fn 48 [] [.ptr 5 0,.ptr 1 0,.ptr 4 0],.v (.int .i64 3),.fn 49 [] [.ptr 5 0,.ptr 1 0,.ptr 4 0],.v (.int .i64 4),.fn 50 [] [.ptr 1 0,.ptr 5 0,.ptr 0 0],.v (.int .i64 7),.fn 51 [] [.ptr 3 0,.ptr 1 0,.ptr 4 0]]/\lk 114 st.t=.v (.int .i64 4)/\lk 115 st.t=.v (.int .i64 0)/\st.h=[.cells (cellsOf .al a0),.cells (cellsOf .refusal E),.cells (cellsOf .x5 ((aD a0 a1 W V U).1)),.cells [.rm .apc .int ((eE (da ((aD a0 a1 W V U).1) E.ai) E.apo).1)],.cells (cellsOf .reach (a0.reaches.getD (Int.toNat E.reach) (default:Reach))),.cells [.fn 47 [] [.ptr 1 0]]]) (aj (je a0 a1 W V U E) 4 0 ()) (λ_=>.ret) (λX=>⟨[(12,.v (.bool X)),(13,.v (.int .i64 0))],[.dead,.dead,.dead,.dead,.dead,.dead]⟩) (λs_1=>⟨[],[.dead,.dead,.dead,.dead,.dead,.dead]⟩))else none),?_,?_⟩
 ·unfold ae Tryz.f15;simp only[ak,true_and,and_true];refine⟨?_,?_⟩;refine bL mixed aB hG kr (λ_=>rfl) (E.ai.length:Int) rfl fj (λhb0 Y ly aqw hq0 hw hc=>⟨L0,ag _,?_⟩) (λhb0 ly hc=>?_);unfold lm at hq0;try simp only[hw,alI]at hq0
  exact bB (jl [0,1,2]);exact bC (jl [0,1,2])
  ·refine SI mixed aB hG kr λst lc hC hp=>?_;simp only[go_sem,Nat.reduceBEq,alK]at hC;subst hC;obtain⟨t,h⟩:=st;dsimp only[LC]at hp;obtain⟨e1_0,e1_1,e1_2,e1_3,rfl⟩:=hp;refine⟨_,_,_,(je a0 a1 W V U E),(t8 a0 a1 W V U E),4,(),_,_,_,(λO s_1=>⟨[(11,.ptr 1 0),(113,.ls 2 [.v (.int .i64 1),.fn 48 [] [.ptr 5 0,.ptr 1 0,.ptr 4 0],.v (.int .i64 3),.fn 49 [] [.ptr 5 0,.ptr 1 0,.ptr 4 0],.v (.int .i64 4),.fn 50 [] [.ptr 1 0,.ptr 5 0,.ptr 0 0],.v (.int .i64 7),.fn 51 [] [.ptr 3 0,.ptr 1 0,.ptr 4 0]]),(114,.v (.int .i64 4)),(115,.v (.int .i64 (O:Int)))],[.cells (cellsOf .al a0),.cells (cellsOf .refusal E),.dead,.cells [.rm .apc .int ((eE (da ((aD a0 a1 W V U).1) E.ai) E.apo).1)],.cells (cellsOf .reach (a0.reaches.getD (Int.toNat E.reach) (default:Reach))),.cells [.fn 47 [] [.ptr 1 0]]]⟩),⟨t,[.cells (cellsOf .al a0),.cells (cellsOf .refusal E),.cells (cellsOf .x5 ((aD a0 a1 W V U).1)),.cells [.rm .apc .int ((eE (da ((aD a0 a1 W V U).1) E.ai) E.apo).1)],.cells (cellsOf .reach (a0.reaches.getD (Int.toNat E.reach) (default:Reach))),.cells [.fn 47 [] [.ptr 1 0]]]⟩,[0,1,2,3,4,5],rfl,gX _ _ _ λ_ _ _ _=>trivial,apT.refl _,Y2 rfl,?_,λO s_1 hk1 hp1=>?_⟩
   ·simp only[go_sem,e1_0,e1_1,e1_2,e1_3];all_goals (first|done|decide|(repeat' (first|refine And.intro ?_ ?_|rfl|decide)))
   refine⟨L0,?_,?_⟩;simp only[ak,and_self,true_and,and_true]
   ·have hkk:O=0\/O=1\/O=2\/O=3\/O=4:=by omega
    have hw1_0:i64.wrap ((0:Int)+1)=((0+1:Nat):Int):=by decide
    have hw1_1:i64.wrap ((1:Int)+1)=((1+1:Nat):Int):=by decide
    have hw1_2:i64.wrap ((2:Int)+1)=((2+1:Nat):Int):=by decide
    have hw1_3:i64.wrap ((3:Int)+1)=((3+1:Nat):Int):=by decide
    rcases hkk with rfl|rfl|rfl|rfl|rfl;all_goals try (have hq1:=hp1 (by decide))
    all_goals try unfold t8 at hq1
    all_goals try simp only[go_sem,Nat.reduceBEq,Nat.reduceEqDiff,cond_true,cond_false,true_imp_iff,false_imp_iff,alO,true_and,and_true,reduceCtorEq]at hq1
    all_goals simp only[go_sem,je,aoX,Nat.reduceLT,Nat.reduceEqDiff]
    all_goals exact uL (jl [0,1,2,3,4,5])
 unfold ae Tryz.f15;try unfold eF
 exact zq2
def iB (a0:S1)(f_:T1)(rs_:List Reach):Bool:=letI q0:=rs_.getD (Int.toNat a0.reach) default;letI q1:=a0.reach==f_.index;letI q2:=a0.hour==f_.hour;(bif(f_.kind==1)then(q1&&q2)else(bif(f_.kind==3)then((q1&&(decide (a0.hour<=f_.hour)))&&(decide (a0.hour > (i64.wrap (f_.hour - q0.delay)))))else(bif(f_.kind==4)then(a0.reach==0)else((q0.up==f_.index)&&q2))))
def jC (a0:S1)(f_:T1)(rs_:List Reach):Prop:=letI q0:=0<=a0.reach/\a0.reach< (rs_.length:Int);((f_.kind==1)=false->(((f_.kind==3)=true->(((a0.reach==f_.index)&&(decide (a0.hour<=f_.hour)))=true->q0))/\((f_.kind==3)=false->((f_.kind==4)=false->q0))))
@[go_sem] noncomputable def ug:List SV->Option Con:=(pD .aoY λa0=>(pX .fault λf_=>(pXR .reach λrs_=>(pE (.det (jC a0 f_ rs_) (.v (.bool (iB a0 f_ rs_))))))))
theorem tE:zs Tryz.prog 77 ug:=by
 have hG:=mG C1 C1;refine fN hG Tryz.f77 [.o] (ax λa0=>(fO λU=>(vr λO=>(am (λE=>?_)))));dsimp only[an]at E;unfold jC at E;refine⟨Y2 rfl,L0,ag _,?_⟩;unfold ae Tryz.f77;try unfold iB
 exact zq2
def bS (a:S1)(b:S1):Int:=(jz ([(be b.reach a.reach),(be a.hour b.hour)]))
@[go_sem] def nv:List SV->Option Con:=(pD .aoY λa=>(pD .aoY λb=>(pE (.det True (.v (.int .i64 (bS a b)))))))
theorem tF:zs Tryz.prog 80 nv:=by
 have hG:=mG (cn [.sl .int] yN (cp eK C1)) C1;refine fN hG Tryz.f80 [.o] (ax λa=>(ax λb=>(am (λE=>?_))));dsimp only[an]at E;refine⟨Y2 rfl,L0,ag _,?_⟩;unfold ae Tryz.f80;try unfold bS
 exact zq2
@[go_sem] def vR (x:Int×S1):List SV:=[.v (.int .i64 x.1),.agg (cellsOf .aoY x.2)]
@[go_sem] def lC:List SV->Option Con:=(pR .aoY λs_=>(pE (.det True (.fn 135 [] [.ep [.rs .aoY s_] 0]))))
theorem kZ:zs Tryz.prog 78 lC:=by
 have hG:=mG C1 C1;refine fN hG Tryz.f78 [.o] (bD λE=>(am (λO=>?_)));refine⟨Y2 rfl,L0,ag _,?_⟩;unfold ae Tryz.f78;simp only[go_sem,oA,oB,Nat.reduceBEq,Nat.reduceLeDiff,Nat.reduceAdd,Nat.reduceSub,Nat.reduceMul]
@[go_sem] def aI (s_:List S1)(Q1:Nat)(ly:List (Int×S1)×Int):(List (Int×S1))⊕(List (Int×S1)×Int):=(bif(decide (ly.2>=0))then .inr ((ly.1++[(ly.2,(s_.getD (Int.toNat ly.2) default))]),(i64.wrap (ly.2 - 1)))else .inl ly.1)
def bX (s_:List S1)(api:List (List SV))(Q1:Nat)(ly:List (Int×S1)×Int):Prop:=((decide (ly.2>=0))=true->((0<=ly.2/\ly.2< (s_.length:Int))/\(api[ly.1.length]? =some (vR (ly.2,(s_.getD (Int.toNat ly.2) default))))))
def aC (s_:List S1):List (Int×S1):=(match aj (aI s_) (s_.length+1) 0 (([]:List (Int×S1)),(i64.wrap ((s_.length:Int) - 1)))with| .inl gl=>gl| .inr ly=>default)
def cb (s_:List S1)(api:List (List SV)):Prop:=letI q0:=(([]:List (Int×S1)),(i64.wrap ((s_.length:Int) - 1)));letI q1:=aI s_;letI q2:=s_.length+1;(s_.length<=aH->(okI q1 (bX s_ api) q2 0 q0/\(∀ z_,aj q1 q2 0 q0≠ .inr z_)/\(∀ gl,aj q1 q2 0 q0=.inl gl->(api.length=gl.length))))
theorem kw (U:List S1)(E:List (List SV))(hp:cb U E):Af Tryz.prog 135 (λy=>[y,.ep [.rs .aoY U] 0]) [] E:=by
 unfold cb at hp;refine Bw mixed aB (fn:=Tryz.f135) (c:=ae Tryz.f135) kr kr kr kr rfl (n:=0) rfl (G:=λW=>Ag [] [] (C7 E W)) (λW hy=>?_) (λargs w=>by kernel_rfl);have hG:=mGY C1 C1 hy;refine⟨hG,Y2 rfl,(λid st=>bif Nat.beq id 0 then some (YK (ρ:=(List (Int×S1))) (σ:=(List (Int×S1)×Int)) 1 [] [0] (λY O=>⟨[(0,.os 0),(1,.ep [.rs .aoY U] 0),(3,.v (.int .i64 O.2))],[.ab (W.1 (O.1.length+1))]⟩) (aI U) (bX U E) (U.length+1) (([]:List (Int×S1)),(i64.wrap ((U.length:Int) - 1))) (λ_=>.normal) (λV=>⟨[],[.ab (W.1 (V.length+1))]⟩) ⟨[],[.ab (W.1 0)]⟩ st)else none),?_,?_⟩;unfold ae Tryz.f135;simp only[ak,true_and,and_true];refine IS mixed aB hG kr (λ_=>rfl) λY O X=>⟨L0,ag _,?_⟩;unfold bX at X;exact M0 (jl [0]);unfold ae Tryz.f135;exact M0 (jl [0])
end Go.Sx
end
section
namespace Go.Proofs
open Go.Shelf Go.Sx
def Tryz.aqO:Go.Shelf.Ren:=⟨λ|6=>79|15=>133|14=>136|28=>199|29=>200|20=>201|21=>202|22=>203|23=>204|24=>205|25=>206|26=>207|27=>208|46=>264|47=>260|48=>261|49=>265|50=>266|57=>307|n=>n,λ|22=>36|24=>75|25=>150|3=>3|39=>229|0=>0|53=>294|55=>296|4=>4|46=>288|45=>287|50=>267|5=>5|9=>9|66=>342|70=>60|76=>375|77=>376|n=>n,λ|n=>n⟩
theorem Tryz.arf:Go.Proofs.SlLaysF0.n6 Tryz.prog Tryz.aqO:=⟨kr,⟨Tryz.f79.name,by decide,kr⟩,⟨Tryz.f136.name,by decide,kr⟩,kr,⟨Tryz.f201.name,by decide,kr⟩,⟨Tryz.f202.name,by decide,kr⟩,⟨Tryz.f203.name,by decide,kr⟩,⟨Tryz.f204.name,by decide,kr⟩,⟨Tryz.f205.name,by decide,kr⟩,⟨Tryz.f206.name,by decide,kr⟩,⟨Tryz.f207.name,by decide,kr⟩,⟨Tryz.f208.name,by decide,kr⟩,kr,kr,⟨Tryz.f264.name,by decide,kr⟩,kr,kr,⟨Tryz.f265.name,by decide,kr⟩,⟨Tryz.f266.name,by decide,kr⟩,⟨Tryz.f307.name,by decide,kr⟩,kr,λ_=>kr,λ_=>kr,λ_=>kr,kr,λ_=>kr,λ_=>kr,λ_=>kr,kr,λ_=>kr,λ_=>kr,λ_=>kr,kr,λ_=>kr,λ_=>kr,λ_=>kr,kr,λ_=>kr,λ_=>kr,λ_=>kr,kr,λ_=>kr,λ_=>kr,λ_=>kr,kr,λ_=>kr,λ_=>kr,λ_=>kr,kr,λ_=>kr,λ_=>kr,λ_=>kr,kr,λ_=>kr,λ_=>kr,λ_=>kr,kr,λ_=>kr,λ_=>kr,λ_=>kr,kr,λ_=>kr,λ_=>kr,λ_=>kr,kr,λ_=>kr,λ_=>kr,λ_=>kr,kr,λ_=>kr,λ_=>kr,λ_=>kr,kr,λ_=>kr,λ_=>kr,λ_=>kr,kr,λ_=>kr,λ_=>kr,λ_=>kr,kr,λ_=>kr,λ_=>kr,λ_=>kr,kr,λ_=>kr,λ_=>kr,λ_=>kr⟩
end Go.Proofs
end
section
namespace Go.Sx
open Go.Lib Go.Proofs Go.RowKit Go.Shelf Go.Sort
def plt (a b:S1):Prop:=oq [(b.reach,a.reach),(a.hour,b.hour)]
def Jp (a b:S1):bS a b<0↔plt a b:=BN [(b.reach,a.reach),(a.hour,b.hour)]
theorem GX:SWO (ltOf bS):=KH Jp (λx=>by simp only[plt,oq,and_false,or_false];omega) (λx y z h1 h2=>by simp only[plt,oq,and_false,or_false]at *;omega) (λx y z h1 h2=>by simp only[plt,oq,and_false,or_false]at *;omega)
noncomputable def CY:List SV->List Ob->Option apd:=iN .aoY 80 [] bS
@[go_sem]def W9 {l0:List S1}:CY [.os 0,.fn 80 [] []] [.row .aoY l0]=some (ft (apart bS l0) (.tup []) [.row .aoY (srt bS l0)]):=mV
theorem Lm:xa .aoY:=λx s E=>by
 simp only[cellsOf,alV,amw,or_false]at E;rcases E with rfl|rfl|rfl|rfl;all_goals exact⟨_,rfl,rfl⟩
theorem GY (x y:S1):nv (.agg (cellsOf .aoY x):: .agg (cellsOf .aoY y)::[])=some (.det True (.v (.int .i64 (bS x y)))):=by
 simp only[go_sem]
theorem Ln:ape Tryz.prog 79 CY:=
 qN (k:=.aoY) Tryz.arf (λw=>by kernel_rfl) (λw=>by kernel_rfl) Lm (by decide) (g:=80) (caps:=[]) tF (cf:=bS) GY GX (λs E=>by cases E) ⟨default,default,GY _ _⟩
end Go.Sx
end
section
namespace Go.Sx
open Go.Proofs
open IntKind (i64)
@[go_sem] def dl (s_:x4)(l_:List S1)(f:T1)(z_0:Int×S1)(ly:List ((Int×Int)×Bool)×List S1):Empty⊕(List ((Int×Int)×Bool)×List S1):=letI q0:=s_.d.reaches.getD (Int.toNat z_0.2.reach) default;(bif((iB z_0.2 f s_.d.reaches) ||(aL .apc .bool ly.1 (q0.up,z_0.2.hour)))then .inr ((dH .apc .bool ly.1 (z_0.2.reach,(i64.wrap (z_0.2.hour+q0.delay))) true),(ly.2++([z_0.2])))else .inr (ly.1,ly.2))
def ff (s_:x4)(l_:List S1)(f:T1)(z_0:Int×S1)(ly:List ((Int×Int)×Bool)×List S1):Prop:=letI q0:=0<=z_0.2.reach/\z_0.2.reach< (s_.d.reaches.length:Int);letI q1:=iB z_0.2 f s_.d.reaches;((jC z_0.2 f s_.d.reaches)/\((q1=false->q0)/\((q1||(aL .apc .bool ly.1 ((s_.d.reaches.getD (Int.toNat z_0.2.reach) default).up,z_0.2.hour)))=true->(q0/\((ly.2++([z_0.2])).length*32<=dI)))))
def fI (s_:x4)(l_:List S1)(f:T1):List S1:=(match di (dl s_ l_ f) (aC l_) ([],[])with| .inl x=>x.elim| .inr ly=>(srt bS ly.2))
def iC (s_:x4)(l_:List S1)(f:T1):Prop:=letI q0:=aC l_;letI q1:=dl s_ l_ f;((cb l_ (q0.map vR))/\okL q1 (ff s_ l_ f) q0 ([],[])/\(∀ ly,di q1 q0 ([],[])=.inr ly->(apart bS ly.2)))
@[go_sem] def vS:List SV->Option Con:=(pD .x5 λs_=>(pR .aoY λl_=>(pD .fault λf=>(pE (.det (iC s_ l_ f) (.nw .aoY (fI s_ l_ f)))))))
theorem aih {p:Prop}(h:p:=by simp only[go_sem,e0_0,e0_1,e0_2,e0_3,e0_4,e0_5]):p:=h
theorem aii {l0 l1:List Nat}(a0:JL l0)(a1:JL l1){p:Prop}(h:JL l0->JL l1->p:=by intro ja jb;simp only[go_sem,dl,psT,vR,al7,alR];all_goals exact gj ja jb):p:=h a0 a1
theorem uZ:zs Tryz.prog 35 vS:=by
 have hG:=mG (cp tE (cn [.sl .aoY] kZ C1)) (co Ln C1);refine fE hG Tryz.f35 (ax λU=>(bD λO=>(ax λf=>(am (λW=>?_)))));dsimp only[an]at W;unfold iC at W;refine⟨Y2 rfl,(λid st=>bif Nat.beq id 0 then some (LC (ρ:=Empty) (σ:=List ((Int×Int)×Bool)×List S1) (lk 6 st.t=.v (.slice none 0 0)/\lk 7 st.t=.ptr 2 0/\lk 8 st.t=.ptr 3 0/\lk 9 st.t=.ptr 5 0/\lk 10 st.t=.ptr 6 0/\lk 19 st.t=.fn 135 [] [.ep [.rs .aoY O] 0]/\st.h=[.cells (cellsOf .x5 U),.cells (cellsOf .fault f),.cells [.rs .reach U.d.reaches],.cells [.fn 77 [] [.ptr 1 0,.ptr 2 0]],.mp .apc .bool ([]) none,.cells [.os 4],.cells [.v (.slice none 0 0)]]/\cb O ((aC O).map vR)/\okL (dl U O f) (ff U O f) (aC O) ([],[])) (di (dl U O f) (aC O) ([],[])) (λx=>x.elim) (λx=>x.elim) (λE=>⟨[(6,.v (.slice none 0 0)),(7,.ptr 2 0),(8,.ptr 3 0),(9,.ptr 5 0),(10,.ptr 6 0)],[.dead,.cells (cellsOf .fault f),.cells [.rs .reach U.d.reaches],.cells [.fn 77 [] [.ptr 1 0,.ptr 2 0]],.mp .apc .bool E.1 none,.cells [.os 4],.cells [.os 8],.dead,.row .aoY E.2]⟩))else none),?_,?_⟩
 ·unfold ae Tryz.f35;simp only[ak,true_and,and_true]
  ·refine zi mixed aB hG (by decide) (by decide) kr kr λst lc Y W=>?_;simp only[go_sem,Nat.reduceBEq,alK]at Y;subst Y;obtain⟨t,h⟩:=st;dsimp only[LC]at W;obtain⟨e0_0,e0_1,e0_2,e0_3,e0_4,e0_5,rfl,hb0,V⟩:=W;refine⟨⟨t,[.cells (cellsOf .x5 U),.cells (cellsOf .fault f),.cells [.rs .reach U.d.reaches],.cells [.fn 77 [] [.ptr 1 0,.ptr 2 0]],.mp .apc .bool ([]) none,.cells [.os 4],.cells [.os 7],.row .aoY ([])]⟩,apT.cell (h:=[.cells (cellsOf .x5 U),.cells (cellsOf .fault f),.cells [.rs .reach U.d.reaches],.cells [.fn 77 [] [.ptr 1 0,.ptr 2 0]],.mp .apc .bool ([]) none,.cells [.os 4],.cells [.v (.slice none 0 0)]]) (i:=6) (j:=0) (.row .aoY ([])) (apT.refl _) rfl rfl (.inl ⟨_,rfl⟩),135,[.ep [.rs .aoY O] 0],Int×S1,_,_,(aC O),vR,(dl U O f),(ff U O f),_,([],[]),_,_,_,[(6,.v (.slice none 0 0)),(7,.ptr 2 0),(8,.ptr 3 0),(9,.ptr 5 0),(10,.ptr 6 0)],(λE=>[.dead,.cells (cellsOf .fault f),.cells [.rs .reach U.d.reaches],.cells [.fn 77 [] [.ptr 1 0,.ptr 2 0]],.mp .apc .bool E.1 none,.cells [.os 4],.cells [.os 8],.dead,.row .aoY E.2]),(λx=>x.elim),[0,1,2,3,4,5,6,7,7],?_,rfl,V,Y2 rfl,?_,kw O _ hb0,λz_0 E X=>⟨rfl,L0,λl=>?_,λl=>?_,?_⟩,λE=>?_,λy=>?_⟩;exact aih
   ·simp only[go_sem,sI,jR,al5,amR,alR,al3,amL,e0_0,e0_1,e0_2,e0_3,e0_4,e0_5];all_goals (first|done|decide|(repeat' (first|refine And.intro ?_ ?_|rfl|decide)))
   simp only[ak,and_self,true_and,and_true];simp only[ak,and_self,true_and,and_true];unfold ff at X;exact aii (jl [0,1,2,3,4,5,6,7,11]) (jl [0,1,2,3,4,5,6,7,8]);exact qX (jl [0,1,2,3,4,5,6,7,11]) (jl [0,1,2,3,4,5,6,7,8]);exact qX (jl [0,1,2,3,4,5,6,7,11]) (jl [0,1,2,3,4,5,6,7,8])
 unfold ae Tryz.f35;try unfold fI
 exact zq2
end Go.Sx
end
section
namespace Go.Sx
theorem ass {p:Prop}(h:p:=by(first|done|(repeat' (first|with_reducible refine And.intro ?_ ?_|with_reducible intro _)) <;>(first|done|with_reducible assumption|(exfalso;simp_all only[ne_eq];done) |exact cl))):p:=h
end Go.Sx
end
section
namespace Go.Sx
open Go.Proofs
open IntKind (i64)
@[go_sem] def zC:List SV->Option Con:=pR .int λl=>pE (.det (l.length*8<=dI) (.nw .int l))
theorem yy:zs Tryz.prog 33 zC:=by
 refine fW (mG C1 C1) Tryz.f33 [(.tmp 2,.int)] (bD λl=>am λE=>?_);dsimp only[an]at E;refine⟨Y2 rfl,L0,ag _,?_⟩;unfold ae Tryz.f33;simp only[go_sem];intro b O;refine⟨λh=>?_,λ_=>?_⟩;have U:=O h;subst U;rfl;first|exact E|exact⟨E,λ_=>rfl⟩
@[go_sem] def dF (a0:ah)(a1:List bh)(a2:Int)(a3:Int)(a4:Int)(z_0:List Int)(ly:Unit):(ByteArray×Int×Int×Int×List Reach×List aqa×List aqC×List apu×List aqF×List aqD×List Claim×List Int)⊕Unit:=letI q0:=da ((aD a0 a1 a2 a3 a4).1) z_0;(bif(!(bq a0 (q0.c)).2.1)then .inl (q0.d.name,q0.d.hours,q0.d.apa.cap,q0.d.apa.start,q0.d.reaches,q0.d.l5,q0.d.apg,q0.d.ai,q0.d.apb,q0.d.apQ,q0.c,z_0)else .inr ())
def kJ (a0:ah)(a1:List bh)(a2:Int)(a3:Int)(a4:Int)(z_0:List Int)(ly:Unit):Prop:=letI q0:=(aD a0 a1 a2 a3 a4).1;letI q1:=(da q0 z_0).c;((jo q0 z_0)/\((gB a0 q1)/\((!(bq a0 q1).2.1)=true->(z_0.length*8<=dI))))
def aU (a0:ah)(a1:List bh)(a2:Int)(a3:Int)(a4:Int):apf×Bool×Int:=letI q0:=aD a0 a1 a2 a3 a4;(bif(q0.2 !=0)then(({ ai:=[],kind:=0,reach:=0,hour:=0,apo:=[]}:apf),false,q0.2)else(bif(bq a0 ((q0.1).c)).2.1 then(({ ai:=[],kind:=0,reach:=0,hour:=0,apo:=[]}:apf),false,0)else(match di (dF a0 a1 a2 a3 a4) (ef (aq (q0.1))) ()with| .inl gl=>(({ ai:=gl.2.2.2.2.2.2.2.2.2.2.2,kind:=((bY a0 gl.2.2.2.2.2.2.2.2.2.2.1).1).kind,reach:=((bY a0 gl.2.2.2.2.2.2.2.2.2.2.1).1).index,hour:=((bY a0 gl.2.2.2.2.2.2.2.2.2.2.1).1).hour,apo:=(fI ({ d:=({ name:=gl.1,hours:=gl.2.1,apa:=({ cap:=gl.2.2.1,start:=gl.2.2.2.1}:aqg),reaches:=gl.2.2.2.2.1,l5:=gl.2.2.2.2.2.1,apg:=gl.2.2.2.2.2.2.1,ai:=gl.2.2.2.2.2.2.2.1,apb:=gl.2.2.2.2.2.2.2.2.1,apQ:=gl.2.2.2.2.2.2.2.2.2.1}:ah),c:=gl.2.2.2.2.2.2.2.2.2.2.1}:x4) (dK ({ d:=({ name:=gl.1,hours:=gl.2.1,apa:=({ cap:=gl.2.2.1,start:=gl.2.2.2.1}:aqg),reaches:=gl.2.2.2.2.1,l5:=gl.2.2.2.2.2.1,apg:=gl.2.2.2.2.2.2.1,ai:=gl.2.2.2.2.2.2.2.1,apb:=gl.2.2.2.2.2.2.2.2.1,apQ:=gl.2.2.2.2.2.2.2.2.2.1}:ah),c:=gl.2.2.2.2.2.2.2.2.2.2.1}:x4)) ((bY a0 gl.2.2.2.2.2.2.2.2.2.2.1).1))}:apf),true,0) | .inr ly=>default)))
def mD (a0:ah)(a1:List bh)(a2:Int)(a3:Int)(a4:Int):Prop:=letI q2:=dF a0 a1 a2 a3 a4;letI q3:=aD a0 a1 a2 a3 a4;letI q0:=q3.1;letI q4:=aq q0;letI q1:=ef q4;((nu a0 a1 a2 a3 a4)/\((q3.2 !=0)=false->((gB a0 (q0.c))/\((bq a0 (q0.c)).2.1=false->((fo q0)/\((kI q4 (q1.map W5))/\okL q2 (kJ a0 a1 a2 a3 a4) q1 ()/\(∀ z_,di q2 q1 ()≠ .inr z_)/\(∀ gl,di q2 q1 ()=.inl gl->((ll a0 gl.2.2.2.2.2.2.2.2.2.2.1)/\((ig ({ d:=({ name:=gl.1,hours:=gl.2.1,apa:=({ cap:=gl.2.2.1,start:=gl.2.2.2.1}:aqg),reaches:=gl.2.2.2.2.1,l5:=gl.2.2.2.2.2.1,apg:=gl.2.2.2.2.2.2.1,ai:=gl.2.2.2.2.2.2.2.1,apb:=gl.2.2.2.2.2.2.2.2.1,apQ:=gl.2.2.2.2.2.2.2.2.2.1}:ah),c:=gl.2.2.2.2.2.2.2.2.2.2.1}:x4))/\(iC ({ d:=({ name:=gl.1,hours:=gl.2.1,apa:=({ cap:=gl.2.2.1,start:=gl.2.2.2.1}:aqg),reaches:=gl.2.2.2.2.1,l5:=gl.2.2.2.2.2.1,apg:=gl.2.2.2.2.2.2.1,ai:=gl.2.2.2.2.2.2.2.1,apb:=gl.2.2.2.2.2.2.2.2.1,apQ:=gl.2.2.2.2.2.2.2.2.2.1}:ah),c:=gl.2.2.2.2.2.2.2.2.2.2.1}:x4) (dK ({ d:=({ name:=gl.1,hours:=gl.2.1,apa:=({ cap:=gl.2.2.1,start:=gl.2.2.2.1}:aqg),reaches:=gl.2.2.2.2.1,l5:=gl.2.2.2.2.2.1,apg:=gl.2.2.2.2.2.2.1,ai:=gl.2.2.2.2.2.2.2.1,apb:=gl.2.2.2.2.2.2.2.2.1,apQ:=gl.2.2.2.2.2.2.2.2.2.1}:ah),c:=gl.2.2.2.2.2.2.2.2.2.2.1}:x4)) ((bY a0 gl.2.2.2.2.2.2.2.2.2.2.1).1)))))))))))
@[go_sem] def Lo:List SV->Option Con:=(pD .al λa0=>(pR .u0 λa1=>(pI λa2=>(pI λa3=>(pI λa4=>(pE (.det (mD a0 a1 a2 a3 a4) (.tup [.agg [.nw .int (((aU a0 a1 a2 a3 a4).1).ai),.v (.int .i64 (((aU a0 a1 a2 a3 a4).1).kind)),.v (.int .i64 (((aU a0 a1 a2 a3 a4).1).reach)),.v (.int .i64 (((aU a0 a1 a2 a3 a4).1).hour)),.nw .aoY (((aU a0 a1 a2 a3 a4).1).apo)],.v (.bool ((aU a0 a1 a2 a3 a4).2.1)),.v (.int .i64 ((aU a0 a1 a2 a3 a4).2.2))]))))))))
variable {p:Prop}
theorem aij(h:p:=by simp only[go_sem,e0_0,e0_1,e0_2,e0_3,e0_4,e0_5,e0_6]):p:=h
theorem aik{l0 l1:List Nat}(a0:JL l0)(a1:JL l1)(h:JL l0->JL l1->p:=by intro ja jb;simp only[go_sem,dF,psT,W5,al7,alR];all_goals exact gj ja jb):p:=h a0 a1
theorem ail(h:p:=by simp only[go_sem];all_goals exact ass):p:=h
theorem yU:zs Tryz.prog 11 Lo:=by
 have hG:=mG (cn [.st .al,.sl .x6] t6 (cn [.st .al,.sl .u0,.o,.o,.o] xC (cn [.sl .int] GR (cn [.st .x5] kh (cn [.st .x5,.sl .int] sP (cn [.sl .int] yy (cn [.st .al,.sl .x6] tj (cn [.st .x5,.sl .aoY,.st .fault] uZ (cn [.st .x5] uf C1))))))))) C1;refine fW hG Tryz.f11 [(.cell 10 0,.int),(.cell 10 4,.aoY)] (ax λa0=>(bD λa1=>(az λV=>(az λU=>(az λO=>(am (λY=>?_)))))));dsimp only[an]at Y;unfold mD at Y;refine⟨Y2 rfl,(λid st=>bif Nat.beq id 0 then some (LC (ρ:=ByteArray×Int×Int×Int×List Reach×List aqa×List aqC×List apu×List aqF×List aqD×List Claim×List Int) (σ:=Unit) (lk 5 st.t=.ptr 0 0/\lk 10 st.t=.ptr 1 0/\lk 11 st.t=.v (.bool false)/\lk 12 st.t=.v (.int .i64 ((aD a0 a1 V U O).2))/\lk 13 st.t=.ptr 2 0/\lk 17 st.t=.ptr 3 0/\lk 50 st.t=.fn 69 [] [.ep [.rs .int (aq ((aD a0 a1 V U O).1))] 0]/\st.h=[.cells (cellsOf .al a0),.cells [.v (.slice none 0 0),.v (.int .i64 0),.v (.int .i64 0),.v (.int .i64 0),.v (.slice none 0 0)],.cells (cellsOf .x5 ((aD a0 a1 V U O).1)),.cells [.v (.string (ByteArray.mk #[])),.v (.int .i64 0),.v (.int .i64 0),.v (.int .i64 0),.v (.slice none 0 0),.v (.slice none 0 0),.v (.slice none 0 0),.v (.slice none 0 0),.v (.slice none 0 0),.v (.slice none 0 0),.v (.slice none 0 0)]]/\kI (aq ((aD a0 a1 V U O).1)) ((ef (aq ((aD a0 a1 V U O).1))).map W5)/\okL (dF a0 a1 V U O) (kJ a0 a1 V U O) (ef (aq ((aD a0 a1 V U O).1))) ()/\(∀ z_,di (dF a0 a1 V U O) (ef (aq ((aD a0 a1 V U O).1))) ()≠ .inr z_)) (di (dF a0 a1 V U O) (ef (aq ((aD a0 a1 V U O).1))) ()) (λ_=>.normal) (λE=>⟨[(5,.ptr 0 0),(10,.ptr 1 0),(11,.v (.bool false)),(12,.v (.int .i64 ((aD a0 a1 V U O).2))),(13,.ptr 2 0),(17,.ptr 3 0)],[.cells (cellsOf .al a0),.cells [.os 5,.v (.int .i64 0),.v (.int .i64 0),.v (.int .i64 0),.v (.slice none 0 0)],.cells (cellsOf .x5 ((aD a0 a1 V U O).1)),.cells [.v (.string E.1),.v (.int .i64 E.2.1),.v (.int .i64 E.2.2.1),.v (.int .i64 E.2.2.2.1),.rs .reach E.2.2.2.2.1,.rs .dd E.2.2.2.2.2.1,.rs .apL E.2.2.2.2.2.2.1,.rs .right E.2.2.2.2.2.2.2.1,.rs .apX E.2.2.2.2.2.2.2.2.1,.rs .ap2 E.2.2.2.2.2.2.2.2.2.1,.rs .x6 E.2.2.2.2.2.2.2.2.2.2.1],.dead,.row .int E.2.2.2.2.2.2.2.2.2.2.2]⟩) (λW=>⟨[(5,.ptr 0 0),(10,.ptr 1 0),(11,.v (.bool false)),(12,.v (.int .i64 ((aD a0 a1 V U O).2))),(13,.ptr 2 0),(17,.ptr 3 0)],[.cells (cellsOf .al a0),.cells [.os 5,.v (.int .i64 0),.v (.int .i64 0),.v (.int .i64 0),.v (.slice none 0 0)],.cells (cellsOf .x5 ((aD a0 a1 V U O).1)),.cells [.any,.any,.any,.any,.any,.any,.any,.any,.any,.any,.any],.dead,.row .int ([])]⟩))else none),?_,?_⟩
 ·unfold ae Tryz.f11;simp only[ak,true_and,and_true]
  ·refine zi mixed aB hG (by decide) (by decide) kr kr λst lc hC Y=>?_;simp only[go_sem,Nat.reduceBEq,alK]at hC;subst hC;obtain⟨t,h⟩:=st;dsimp only[LC]at Y;obtain⟨e0_0,e0_1,e0_2,e0_3,e0_4,e0_5,e0_6,rfl,hb0,X,hno0⟩:=Y;refine⟨⟨t,[.cells (cellsOf .al a0),.cells [.os 4,.v (.int .i64 0),.v (.int .i64 0),.v (.int .i64 0),.v (.slice none 0 0)],.cells (cellsOf .x5 ((aD a0 a1 V U O).1)),.cells [.v (.string (ByteArray.mk #[])),.v (.int .i64 0),.v (.int .i64 0),.v (.int .i64 0),.v (.slice none 0 0),.v (.slice none 0 0),.v (.slice none 0 0),.v (.slice none 0 0),.v (.slice none 0 0),.v (.slice none 0 0),.v (.slice none 0 0)],.row .int ([])]⟩,apT.cell (h:=[.cells (cellsOf .al a0),.cells [.v (.slice none 0 0),.v (.int .i64 0),.v (.int .i64 0),.v (.int .i64 0),.v (.slice none 0 0)],.cells (cellsOf .x5 ((aD a0 a1 V U O).1)),.cells [.v (.string (ByteArray.mk #[])),.v (.int .i64 0),.v (.int .i64 0),.v (.int .i64 0),.v (.slice none 0 0),.v (.slice none 0 0),.v (.slice none 0 0),.v (.slice none 0 0),.v (.slice none 0 0),.v (.slice none 0 0),.v (.slice none 0 0)]]) (i:=1) (j:=0) (.row .int ([])) (apT.refl _) rfl rfl (.inl ⟨_,rfl⟩),69,[.ep [.rs .int (aq ((aD a0 a1 V U O).1))] 0],List Int,_,_,(ef (aq ((aD a0 a1 V U O).1))),W5,(dF a0 a1 V U O),(kJ a0 a1 V U O),_,(),_,_,_,[(5,.ptr 0 0),(10,.ptr 1 0),(11,.v (.bool false)),(12,.v (.int .i64 ((aD a0 a1 V U O).2))),(13,.ptr 2 0),(17,.ptr 3 0)],(λW=>[.cells (cellsOf .al a0),.cells [.os 5,.v (.int .i64 0),.v (.int .i64 0),.v (.int .i64 0),.v (.slice none 0 0)],.cells (cellsOf .x5 ((aD a0 a1 V U O).1)),.cells [.any,.any,.any,.any,.any,.any,.any,.any,.any,.any,.any],.dead,.row .int ([])]),(λE=>[.cells (cellsOf .al a0),.cells [.os 5,.v (.int .i64 0),.v (.int .i64 0),.v (.int .i64 0),.v (.slice none 0 0)],.cells (cellsOf .x5 ((aD a0 a1 V U O).1)),.cells [.v (.string E.1),.v (.int .i64 E.2.1),.v (.int .i64 E.2.2.1),.v (.int .i64 E.2.2.2.1),.rs .reach E.2.2.2.2.1,.rs .dd E.2.2.2.2.2.1,.rs .apL E.2.2.2.2.2.2.1,.rs .right E.2.2.2.2.2.2.2.1,.rs .apX E.2.2.2.2.2.2.2.2.1,.rs .ap2 E.2.2.2.2.2.2.2.2.2.1,.rs .x6 E.2.2.2.2.2.2.2.2.2.2.1],.dead,.row .int E.2.2.2.2.2.2.2.2.2.2.2]),[0,1,2,3,4,4],?_,rfl,X,Y2 rfl,?_,Ck (aq ((aD a0 a1 V U O).1)) _ hb0,λz_0 W hq0=>⟨rfl,L0,λl=>?_,λl=>?_,?_⟩,λW=>?_,λy=>?_⟩;exact aij
   ·simp only[go_sem,sI,jR,al5,amR,alR,al3,amL,e0_0,e0_1,e0_2,e0_3,e0_4,e0_5,e0_6];all_goals (first|done|decide|(repeat' (first|refine And.intro ?_ ?_|rfl|decide)))
   simp only[ak,and_self,true_and,and_true];simp only[ak,and_self,true_and,and_true];unfold kJ at hq0;exact aik (jl [0,1,2,3,4,6]) (jl [0,1,2,3,4,5]);exact qX (jl [0,1,2,3,4,6]) (jl [0,1,2,3,4,5]);exact qX (jl [0,1,2,3,4,6]) (jl [0,1,2,3,4,5])
 unfold ae Tryz.f11;try unfold aU
 exact ail
theorem zD (d:ah)(l:List bh)(fr to k:Int):(av d l fr to k).1.length<=4096:=by
 rw[(Jd d l fr to k).2];grind [lim]
theorem RH {α:Type}{step:Nat->List α->Empty⊕List α}{p:Nat->List α->Prop}(f:Nat->α)(h:∀ k s,step k s=.inr (s++[f k])):∀ (n i:Nat) (s:List α),s.length=i->(∀ k s,k<i+n->s.length=k->p k s)->okI step p n i s
 |0,_,_,_,_=>trivial
 |n+1,i,s,hs,hp=>⟨hp i s (by omega) hs,λs' e=>RH f h n (i+1) s' (by grind) λk s h1 h2=>hp k s (by omega) h2⟩
theorem zF (s:x4)(h:s.c.length<=4096):fo s:=λ_=>
 RH (λk=>(s.c.getD k (default:Claim)).right) (λ_ _=>rfl) _ _ _ rfl λk t h1 h2=>by
  grind [gE,dI]
def aaI (d:ah)(l:List bh)(fr to k:Int):nu d l fr to k:=
 ⟨(Jd d l fr to k).1,λ_=>⟨GP d _,λ_=>zF _ (zD d l fr to k)⟩⟩
theorem Jq (d:ah)(c:List Claim):(bY d c).2.2=0↔aql d c/\(aR d (aT c)).2.2=0:=by
 unfold bY cw;by_cases E:aql d c
 rw[Cj E];grind
 have h1:(a7 d c).2≠0:=λq=>E (Ci.1 q);grind
structure Opn (d:ah)(l:List bh)(fr to k:Int):Prop where
 err:(av d l fr to k).2=0
 ask:aql d (av d l fr to k).1
 plan:(aR d (aT (av d l fr to k).1)).2.2=0
 ten:((aq { d:=d,c:=(av d l fr to k).1}).length:Int)<=10
theorem Lp (d:ah)(l:List bh)(fr to k:Int):(aD d l fr to k).2=0↔Opn d l fr to k:=by
 have U:=Jq d (av d l fr to k).1;unfold aD;by_cases h1:(av d l fr to k).2=0
 by_cases h2:(bY d (av d l fr to k).1).2.2=0
 by_cases W:((aq { d:=d,c:=(av d l fr to k).1}).length:Int)<=10
 have E:decide (((aq { d:=d,c:=(av d l fr to k).1}).length:Int) > 10)=false:=by simp;omega
 simp only[h1,h2,E,bne_self_eq_false,cond_false];exact⟨λ_=>⟨h1,(U.1 h2).1,(U.1 h2).2,W⟩,λ_=>trivial⟩;have E:decide (((aq { d:=d,c:=(av d l fr to k).1}).length:Int) > 10)=true:=by simp;omega
 simp only[h1,h2,E,bne_self_eq_false,cond_false,cond_true];exact⟨λh=>(by cases h),λh=>absurd h.ten W⟩;have O:((bY d (av d l fr to k).1).2.2 !=0)=true:=by grind
 simp only[h1,O,bne_self_eq_false,cond_false,cond_true];exact⟨λh=>absurd h h2,λh=>absurd (U.2 ⟨h.ask,h.plan⟩) h2⟩;have V:((av d l fr to k).2 !=0)=true:=by grind
 simp only[V,cond_true];exact⟨λh=>absurd h h1,λh=>absurd h.err h1⟩
variable {d:ah}
theorem GZ{l:List bh}{fr to k:Int}(h:Opn d l fr to k):aD d l fr to k=({ d:=d,c:=(av d l fr to k).1},0):=by
 have h2:=(Jq d (av d l fr to k).1).2 ⟨h.ask,h.plan⟩;have E:decide (((aq { d:=d,c:=(av d l fr to k).1}).length:Int) > 10)=false:=by have:=h.ten;simp;omega
 unfold aD;simp only[h.err,h2,E,bne_self_eq_false,cond_false]
theorem G0{c:List Claim}(h:aql d c):∀ x∈c,0<=x.dd/\x.dd< (d.l5.length:Int):=λx E=>by
 have:=((mc d c).1 h.chk).2.2.1 x E;grind [okC]
theorem NW {s:x4}(h:∀ x∈s.c,0<=x.dd/\x.dd< (s.d.l5.length:Int)):gq s:=λ_=>
 gX _ _ _ λj t _ E=>by
  grind [gI]
theorem Jr {ρ σ:Type}{step:Nat->σ->ρ⊕σ}:∀ (n i:Nat) (s:σ) {r:σ},aj step n i s=.inr r->∀ j,i<=j->j<i+n->∃ t t',step j t=.inr t'
 |0,_,_,_,_,j,h1,h2=>by omega
 |n+1,i,s,r,h,j,h1,h2=>by
  rw[aj]at h;cases e:step i s with
  |inl x=>grind
  |inr s'=>
   rw[e]at h;by_cases E:j=i
   grind
   exact Jr n (i+1) s' h j (by omega) (by omega)
theorem G1 (n lo hi:Int):du n lo hi=true↔lo<=n/\n<=hi:=by
 unfold du;simp
theorem ady {s:x4}(h:∀ x∈s.c,0<=x.dd/\x.dd< (s.d.l5.length:Int))(U:s.d.reaches.length<=64)(l:List S1):jM s l:=by
 have hw:∀ n:Int,du n 0 (i64.wrap ((s.d.reaches.length:Int) - 1))=true->0<=n/\n< (s.d.reaches.length:Int):=λn h=>by
  grind [G1,aA]
 refine⟨NW h,λ_=>⟨gX _ _ _ λj t _ E=>?_,λt O _=>gX _ _ _ λj u _ E=>?_⟩⟩;grind [iz]
 obtain⟨v,V,e⟩:=Jr _ _ _ O j (ame _) E;grind [iA,eU]
theorem D1 (d:ah)(l:List bh)(fr to k:Int)(r:apf):iT d l fr to k r:=by
 refine⟨aaI d l fr to k,λh0=>?_⟩;have E:=(Lp d l fr to k).1 (by grind);have hc:=zD d l fr to k;have Y:=GO E.ask.chk;have U:d.reaches.length<=64:=by
  have:=((qU d).1 ((mc d _).1 E.ask.chk).1).1;omega
 rw[GZ E];refine⟨zF _ hc,λhm=>⟨gX _ _ _ λj t _ X=>?_,λs W=>?_⟩⟩;grind [lm,aH,aA]
 obtain⟨h1,h2⟩:=zp { d:=d,c:=(av d l fr to k).1} r.ai hc;refine⟨h1,?_⟩;rw[h2];refine⟨ady (λx O=>G0 E.ask x ((ang.1 O).1)) U _,λV=>?_⟩;grind [G1,aA]
theorem Lq {α:Type}{step:Nat->List α->Empty⊕List α}(f:Nat->List α)(h:∀ k s,step k s=.inr (s++f k)):∀ n i s,aj step n i s=.inr (s++(List.range' i n).flatMap f)
 |0,i,s=>by simp[aj]
 |n+1,i,s=>by
  rw[aj,h];dsimp only;rw[Lq f h n (i+1),am9,al5,amt]
theorem W_ {α:Type}{step:Nat->List α->Empty⊕List α}{p:Nat->List α->Prop}(f:Nat->List α)(h:∀ k s,step k s=.inr (s++f k)):∀ n i s,(∀ j,j<n->p (i+j) (s++(List.range' i j).flatMap f))->okI step p n i s
 |0,_,_,_=>trivial
 |n+1,i,s,hp=>by
  refine⟨by simpa using hp 0 (by omega),λs' e=>?_⟩;rw[h]at e;cases e;refine W_ f h n (i+1) _ λj E=>?_;grind [List.range'_succ]
def u4 (l:List Int):List (List Int):=(List.range' 0 (l.length+1)).flatMap λn=>chz n [] l
variable {l:List Int}
theorem Lr(h:l.length<=900):ef l=u4 l:=by
 unfold ef;rw[aA (by omega) (by omega),Lq (step:=jZ l) (λn=>chz n [] l) λ_ _=>rfl];rfl
theorem adz(h:l.length<=900):kI l ((ef l).map W5):=by
 intro _;rw[Lr h,aA (by omega) (by omega),show(((l.length:Int)+1).toNat)=l.length+1 by omega];refine⟨by omega,W_ (λn=>chz n [] l) (λ_ _=>rfl) _ _ _ λj O=>?_,λs E=>?_⟩;unfold ku chP;rw[alR,alQ];refine⟨by grind,by grind,λi y hy=>?_⟩;have e:u4 l=(List.range' 0 j).flatMap (λn=>chz n [] l)++(chz j [] l++(List.range' (j+1) (l.length - j)).flatMap λn=>chz n [] l):=by
  unfold u4;rw[show l.length+1=j+(l.length - j+1) by omega,<-aoN,anK,am9,al5,alQ]
 rw[amB,e,anF (by grind)];simp only[anU];rw[anJ (alM.1 hy).1,hy];rfl;rw[Lq (step:=jZ l) (λn=>chz n [] l) λ_ _=>rfl]at E;cases E;rw[amM];rfl
theorem D2:∀ (n:Nat) (s l:List Int) (z:List Int),z∈chz n s l->z.length=s.length+n
 |0,s,l,z,h=>by grind [AV]
 |n+1,s,[],z,h=>by simp[chz]at h
 |n+1,s,x::l,z,h=>by
  simp only[chz]at h;split at h
  cases h;rw[amj]at h;rcases h with h|h;rw[D2 n _ _ _ h];simp;omega;exact D2 (n+1) _ _ _ h
theorem Js{z:List Int}(h:z∈u4 l):z.length<=l.length:=by
 grind [u4,D2,List.length_nil]
def oj (l:List S1):List (Int×S1):=(List.range l.length).map λk=>(((l.length - 1 - k:Nat):Int),l.getD (l.length - 1 - k) default)
theorem NX {l:List S1}(h:l.length<=aH):∀ m k,m+k=l.length+1->okI (aI l) (bX l ((oj l).map vR)) m k ((oj l).take k,(l.length:Int) - 1 - k)/\aj (aI l) m k ((oj l).take k,(l.length:Int) - 1 - k)=.inl (oj l)\/l.length<k
 |0,k,hk=>.inr (by omega)
 |m+1,k,hk=>by
  have hB:(oj l).length=l.length:=by unfold oj;simp
  by_cases hn:k<l.length
  unfold aH at h;have V:decide (((l.length:Int) - 1 - k)>=0)=true:=by simp;omega
  have X:((l.length:Int) - 1 - k).toNat=l.length - 1 - k:=by omega
  have U:(oj l)[k]? =some ((l.length:Int) - 1 - k,l.getD (l.length - 1 - k) default):=by
   grind [oj]
  have W:(oj l).take (k+1)=(oj l).take k++[((l.length:Int) - 1 - k,l.getD (l.length - 1 - k) default)]:=by
   rw[List.take_add_one,U];rfl
  have Y:i64.wrap ((l.length:Int) - 1 - k - 1)=(l.length:Int) - 1 - ((k+1:Nat):Int):=by
   grind [aA]
  have E:aI l k ((oj l).take k,(l.length:Int) - 1 - k)=.inr ((oj l).take (k+1),(l.length:Int) - 1 - ((k+1:Nat):Int)):=by
   simp_all [aI]
  rcases NX h m (k+1) (by omega)with⟨h1,h2⟩ |hx;refine .inl ⟨⟨?_,λs' e=>?_⟩,?_⟩;grind [bX]
  grind
  grind [aj]
  omega;by_cases O:k=l.length
  subst O;have V:decide (((l.length:Int) - 1 - (l.length:Int))>=0)=false:=by simp;omega
  have E:aI l l.length ((oj l).take l.length,(l.length:Int) - 1 - (l.length:Int))=.inl (oj l):=by
   unfold aI;grind
  refine .inl ⟨⟨λq=>?_,λs' e=>?_⟩,?_⟩;grind
  grind
  rw[aj,E];omega
variable {l:List S1}
theorem Zz(h:l.length<=4611686):aC l=oj l/\cb l ((aC l).map vR):=by
 have E:(oj l).length=l.length:=by unfold oj;simp
 have key:=NX (l:=l) (by unfold aH;omega) (l.length+1) 0 rfl;rw[aod,show((l.length:Int) - 1 - ((0:Nat):Int))=(l.length:Int) - 1 by omega]at key;rcases key with⟨h1,h2⟩ |hx;have e:aC l=oj l:=by
  grind [aC,aA]
 refine⟨e,λ_=>?_⟩;grind [aA]
 omega
def plI (R:Nat)(a b:Int)(B:Nat)(l:List S1):Prop:=l.Pairwise plt/\(∀ x∈l,(a<x.reach\/x.reach=a/\x.hour<b)/\0<=x.reach/\x.reach< (R:Int))/\l.length<=B
theorem ZA{R:Nat}{a b:Int}{B:Nat}{x:S1}(h:plI R a b B l)(h1:x.reach=a)(h2:x.hour=b)(U:0<=a)(E:a< (R:Int)):plI R a (b+1) (B+1) (l++[x]):=by
 obtain⟨p,q,n⟩:=h;refine⟨al8.2 ⟨p,by simp,λy hy z O=>?_⟩,λy hy=>?_,by grind⟩;grind [plt,oq]
 grind
theorem Xa{R:Nat}{a b:Int}{B:Nat}(h:plI R a b B l){E:Int}{O:Nat}(W:b<=E)(V:B<=O):plI R a E O l:=
 ⟨h.1,λx U=>by have:=h.2.1 x U;omega,alW h.2.2 V⟩
theorem P_ {s:x4}{t:List S1×List ((Int×Int)×Int)×List ((Int×Int)×Bool)×Int}{k:Nat}{u v:List S1×List ((Int×Int)×Int)×List ((Int×Int)×Bool)}(h:dE s t k u=.inr v):v.1=u.1\/∃ x:S1,v.1=u.1++[x]/\x.reach=t.2.2.2/\x.hour=i64.wrap ((k:Int) - (s.d.reaches.getD t.2.2.2.toNat default).delay):=by
 grind [dE]
theorem Xb {s:x4}(V:aps s.d)(hw:(s.d.reaches.length:Int)*s.d.hours<=1024)(hf:∀ x∈s.c,0<=x.dd/\x.dd< (s.d.l5.length:Int)):ig s/\plI s.d.reaches.length (-1) 0 1024 (dK s):=by
 have h1:=V.one;have h64:=V.reaches;have hH1:=V.aqx;have hH:=V.hours;have hm:s.d.reaches.length*s.d.hours.toNat<=1024:=by
  grind
 have key:=yp (step:=fw s) (p:=eT s) (λt:List S1×List ((Int×Int)×Int)×List ((Int×Int)×Bool)×Int=>(t.2.2.2+1).toNat) (λt=>∃ i:Nat,t.2.2.2=(i:Int) - 1/\i<=s.d.reaches.length/\plI s.d.reaches.length t.2.2.2 (s.d.hours+1) ((s.d.reaches.length - i)*s.d.hours.toNat) t.1/\∀ x∈t.1,t.2.2.2<x.reach) (plI s.d.reaches.length (-1) 0 1024) (λk t ⟨i,hi,hin,U,hl⟩ =>?_) (s.d.reaches.length+1) 0 ([],cy s,[],i64.wrap ((s.d.reaches.length:Int) - 1)) ⟨s.d.reaches.length,by grind [aA],alJ _,⟨List.Pairwise.nil,λx E=>(by cases E),ame _⟩,λx E=>(by cases E)⟩ (by grind [aA]);obtain⟨k1,r,k2,k3⟩:=key;refine⟨⟨NW hf,λ_=>⟨k1,λz hz=>by grind⟩⟩,?_⟩;grind [dK]
 unfold eT fw;rw[hi];cases i with
 |zero=>
  refine⟨λh=>by simp at h,.inl ⟨t.1,rfl,?_⟩⟩;refine⟨U.1,λx E=>?_,alW U.2.2 (by omega)⟩;have:=U.2.1 x E;omega
 |succ i=>
  have e0:decide ((((i+1:Nat):Int) - 1)>=0)=true:=decide_eq_true (by omega);have hd:=(FM _ _).1 (V.reach i (by omega));have Y:∀ (j:Nat) (u:List S1×List ((Int×Int)×Int)×List ((Int×Int)×Bool)),0<=j->j<0+s.d.hours.toNat->plI s.d.reaches.length (i:Int) ((j:Int) - (s.d.reaches.getD i default).delay) ((s.d.reaches.length - (i+1))*s.d.hours.toNat+j) u.1->f7 s t j u/\∀ v,dE s t j u=.inr v->plI s.d.reaches.length (i:Int) (((j+1:Nat):Int) - (s.d.reaches.getD i default).delay) ((s.d.reaches.length - (i+1))*s.d.hours.toNat+(j+1)) v.1:=λj u _ hj h=>by
   have hlen:(s.d.reaches.length - (i+1))*s.d.hours.toNat+(j+1)<=1024:=by
    have:(s.d.reaches.length - (i+1)+1)*s.d.hours.toNat<=s.d.reaches.length*s.d.hours.toNat:=alX _ (by omega);grind
   refine⟨λ_ _=>⟨Lb _ _,λ_=>?_⟩,λv O=>?_⟩;have:=h.2.2;grind [dI]
   rcases P_ O with e| ⟨x,e,X,W⟩;rw[e];exact Xa h (by omega) (by omega);rw[e];rw[hi]at X W;rw[show(((i+1:Nat):Int) - 1)=(i:Int) by omega]at X W;rw[alI,aA (by omega) (by omega)]at W;rw[show(((j+1:Nat):Int) - (s.d.reaches.getD i default).delay)=((j:Int) - (s.d.reaches.getD i default).delay)+1 by omega];exact ZA h X W (by omega) (by omega)
  have h0:plI s.d.reaches.length (i:Int) (((0:Nat):Int) - (s.d.reaches.getD i default).delay) ((s.d.reaches.length - (i+1))*s.d.hours.toNat+0) t.1:=⟨U.1,λx E=>by
   have:=hl x E;have:=(U.2.1 x E).2;omega,U.2.2⟩
  refine⟨λ_=>⟨by omega,by omega,jk (λj u=>plI s.d.reaches.length (i:Int) ((j:Int) - (s.d.reaches.getD i default).delay) ((s.d.reaches.length - (i+1))*s.d.hours.toNat+j) u.1) _ _ (t.1,t.2.1,t.2.2.1) h0 Y⟩,.inr ?_⟩;rw[e0,cond_true];cases q:aj (dE s t) s.d.hours.toNat 0 (t.1,t.2.1,t.2.2.1)with
  |inl x=>exact x.elim
  |inr v=>
   have O:=sJ (λj (u:List S1×List ((Int×Int)×Int)×List ((Int×Int)×Bool)) =>plI s.d.reaches.length (i:Int) ((j:Int) - (s.d.reaches.getD i default).delay) ((s.d.reaches.length - (i+1))*s.d.hours.toNat+j) u.1) _ _ _ h0 (λj u a b c=>(Y j u a b c).2) v q;have ew:i64.wrap (((i+1:Nat):Int) - 1 - 1)=(i:Int) - 1:=by grind [aA]
   simp only[ew];refine⟨_,rfl,by grind,i,rfl,by omega,⟨O.1,λx E=>?_,?_⟩,λx E=>?_⟩;have:=O.2.1 x E;grind;refine alW O.2.2 (Nat.le_of_eq ?_);rw[show s.d.reaches.length - i=s.d.reaches.length - (i+1)+1 by omega,aof];omega;have:=O.2.1 x E;grind
theorem Tq (l:List S1):(oj l).map (·.2)=l.reverse:=by
 unfold oj;refine aor (by simp) λk h1 h2=>?_;grind
def blJ (R:Nat)(L:List (Int×S1))(t:List ((Int×Int)×Bool)×List S1):Prop:=(t.2++L.map (·.2)).Pairwise (λx y=>plt y x)/\(∀ y∈t.2++L.map (·.2),0<=y.reach/\y.reach< (R:Int))/\(t.2++L.map (·.2)).length<=1024
theorem Qa{s:x4}{f:T1}(h:plI s.d.reaches.length (-1) 0 1024 l):iC s l f:=by
 obtain⟨W,V⟩:=Zz (l:=l) (by have:=h.2.2;omega);have U:blJ s.d.reaches.length (aC l) ([],[]):=by
  unfold blJ;rw[W,alR,Tq];exact⟨aoI.2 h.1,λx E=>(h.2.1 x (List.mem_reverse.1 E)).2,by rw[List.length_reverse];exact h.2.2⟩
 have O:∀ x L t,blJ s.d.reaches.length (x::L) t->ff s l f x t/\∀ t',dl s l f x t=.inr t'->blJ s.d.reaches.length L t':=λx L t ⟨g1,X,g3⟩ =>by
  have E:=X x.2 (by simp);have hl:t.2.length<1024:=by grind
  refine⟨⟨λ_=>⟨λ_ _=>E,λ_ _=>E⟩,λ_=>E,λ_=>⟨E,by grind [dI]⟩⟩,λt' e=>?_⟩;grind [dl,blJ]
 refine⟨V,Ld _ O _ _ U,λt Y=>?_⟩;have:=((GI _ (λx L t h=>(O x L t h).2) _ _ U).1 t Y).1;rw[amL,al3]at this;exact(Ge GX (List.reverse_perm _).symm ((aoI.2 this).imp λh=>(Jp _ _).2 h)).1
theorem Qb (a b:Claim):oU a b=decide (cN a b<0):=by
 rw[amo,decide_eq_true_eq,AD];unfold oU;simp only[rZ,oq,and_false,or_false];grind
theorem aaJ {α:Type}(P:α->Bool)(d:α):∀ (l:List α) (n:Nat),n<=l.length->(∀ i,i<n->P (l.getD i d)=true)->(n<l.length->P (l.getD n d)=false)->l.takeWhile P=l.take n/\l.dropWhile P=l.drop n
 | [],n,h,_,_=>by simp
 |x::l,0,_,_,h2=>by
  simp_all
 |x::l,n+1,h,h1,h2=>by
  have:=h1 0 (by omega);rw[an8]at this;rw[alL]at h h2;obtain⟨a,b⟩:=aaJ P d l n (by omega) (λi hi=>by grind) (λE=>by grind);simp_all
theorem Xc (l:List Claim)(x:Claim)(hl:l.length<=153600):tZ l x/\qc l x=ue l x:=by
 obtain⟨a,r,b,⟨c1,c2⟩,O,W⟩:=yp (step:=oV l x) (p:=oW l x) (λs=>l.length - s.toNat) (λs=>(0<=s/\s<=(l.length:Int))/\∀ i:Nat,(i:Int) <s->decide (cN (l.getD i default) x<0)=true)
  (λr=>(0<=r/\r<=(l.length:Int))/\(∀ i:Nat,(i:Int) <r->decide (cN (l.getD i default) x<0)=true)/\(r< (l.length:Int)->decide (cN (l.getD r.toNat default) x<0)=false)) (λk s U=>by
   obtain⟨⟨V,h1⟩,h2⟩:=U;refine⟨λ_ h=>⟨V,of_decide_eq_true h⟩,?_⟩;unfold oV;rw[Qb];by_cases E:s< (l.length:Int)
   rw[decide_eq_true E,ant];cases hq:decide (cN (l.getD s.toNat default) x<0)with
   |true=>
    refine .inr ⟨_,rfl,?_⟩;grind [aA]
   |false=>grind
   grind) 200000 0 0 ⟨⟨amD _,by omega⟩,λi hi=>by omega⟩ (by omega)
 obtain⟨Y,t2⟩:=aaJ (λy=>decide (cN y x<0)) default l r.toNat (by omega) (λi hi=>O i (by omega)) (λhn=>W (by omega));have X:l.take (Int.toNat (l.length:Int))=l:=by grind
 refine⟨⟨a,(λz hz=>by grind),λy hy=>?_⟩,?_⟩;rw[b]at hy;cases hy;grind [dI]
 grind [qc,ue]
theorem Xd (l:List Claim)(x:Claim):(ue l x).length=l.length+1:=by rw[(Jb l x).length_eq,alL]
theorem NY:∀ (r s:List Claim),(r.foldl ue s).length=s.length+r.length
 | [],s=>by simp
 |x::r,s=>by rw[aoC,NY r,Xd,alL];omega
variable {h:Int}
theorem ZB{x:apu}(E:aqU d x)(U:x.kind=1)(O:0<=h)(h1:h<4096):p9 x h=Wr x h:=by
 have:=BZ E O h1;unfold p9;grind
theorem G3 (d:ah)(l:List bh)(h k:Int):rY d l h k/\gA d l h k=sZ d l h k:=by
 have V:=ar_ d l h k;have W:=(@Wt d l h k).2;have hstep:∀ j s,j< (ay d l h k).1.length->kR d l h k j s=(.inr (match opn d h ((ay d l h k).1.getD j default)with|some c=>qc s c|none=>s):Empty⊕List Claim):=λj s O=>by
  obtain⟨⟨⟨a,b⟩,c,e⟩,X,Y⟩:=DW O;grind [kR,ZB,opn]
 have hJ0:∀ j,(((ay d l h k).1.take j).filterMap (opn d h)).foldl ue []=(((ay d l h k).1.take j).filterMap (opn d h)).foldl ue []:=λ_=>rfl;have hlj:∀ j,((((ay d l h k).1.take j).filterMap (opn d h)).foldl ue []).length<=153600:=λj=>by
  grind [NY]
 have E:∀ j s,j< (ay d l h k).1.length->s=(((ay d l h k).1.take j).filterMap (opn d h)).foldl ue []->(match opn d h ((ay d l h k).1.getD j default)with|some c=>qc s c|none=>s)=(((ay d l h k).1.take (j+1)).filterMap (opn d h)).foldl ue []:=λj s O U=>by
  rw[b9 _ default O,anX,List.foldl_append,<-U];cases hc:opn d h ((ay d l h k).1.getD j default)with
  |none=>grind
  |some c=>
   simp_all [Xc]
 refine⟨⟨V.1,?_⟩,?_⟩;rw[V.2];refine jk (λj s=>s=(((ay d l h k).1.take j).filterMap (opn d h)).foldl ue []) _ _ _ rfl λj s _ O U=>?_;have O:j< (ay d l h k).1.length:=by omega
 obtain⟨⟨⟨a,b⟩,c,e⟩,X,Y⟩:=DW O;refine⟨?_,λs' e=>?_⟩;intro _;rw[V.2];exact⟨⟨a,b⟩,λ_=>by have:=X.every;omega,λ_=>(Xc s _ (by grind)).1⟩;grind
 obtain⟨r,h1,h2⟩:=la (step:=kR d l h k) (λj s=>s=(((ay d l h k).1.take j).filterMap (opn d h)).foldl ue []) (ay d l h k).1.length 0 [] rfl (λj s _ O U=>⟨_,hstep j s (by omega),E j s (by omega) U⟩);unfold gA;rw[V.2,h1];simp only;rw[h2,alQ,ano];rfl
theorem Xe{f:Int}(X:aw d=0)(E:0<=f)(h1:f< (d.l5.length:Int)):li d f h/\jc d f h=K8 d f h:=by
 obtain⟨W,U⟩:=ade (Jc X E h1);refine⟨⟨⟨E,h1⟩,W⟩,?_⟩;have key:∀ (L:List Int) (i:Nat) (step:Nat->Unit->Int⊕Unit),(∀ k,k<L.length->step (i+k) ()=bif(NJ d f h (L.getD k 0))then .inl (L.getD k 0)else .inr ())->(match aj step L.length i ()with| .inl x=>x| .inr _=>(-1))=(L.find? (NJ d f h)).getD (-1):=by
  intro L;induction L with
  |nil=>intro i step _;rfl
  |cons x L V=>
   intro i step O;have E:=O 0 (by simp);rw[an8]at E;rw[alL,aj];simp only[amK]at E;rw[E,List.find?_cons];cases NJ d f h x with
   |true=>rfl
   |false=>
    simp only[cond_false];exact V (i+1) step λk Y=>by
     have:=O (k+1) (by grind);grind
 unfold jc K8 Rp;rw[U];exact key _ 0 _ λk Y=>by
  unfold nV;rw[U,alQ];rfl
theorem ZC (d:ah)(l:List bh)(fr to k:Int):qr d l fr to k/\l7 d l fr to k=wv d l fr to k:=by
 refine⟨xZ d l,?_⟩;unfold l7 wv;rw[Rj,Ww];by_cases hc:a8 d l=0
 rw[hc];simp only[bne_self_eq_false,cond_false,ne_eq,not_true,if_false];by_cases E:s4 d fr to k
 rw[Wx (sR hc).right E,decide_eq_true E,if_neg (not_not_intro E)];grind
 grind
 grind
variable {l:List bh}{k:Int}
theorem yb{fr to:Int}(h:wv d l fr to k=0):a8 d l=0/\s4 d fr to k/\¬4096< (to - fr+1)*(d.ai.length:Int):=by
 grind [wv]
theorem Jt (d:ah)(l:List bh)(h k:Int):(sZ d l h k).length<=600*d.ai.length:=by rw[(zu d l h k).length_eq];exact(Ja d l h k).1
theorem Tr{β:Type}{fr to:Int}{G:Int->List β}(V:wv d l fr to k=0)(hG:∀ h,(G h).length<=(sZ d l h k).length)(h1:fr<=h)(h2:h<=to):((hrs fr (h - 1)).flatMap G).length+(sZ d l h k).length<=2457600:=by
 obtain⟨_,U,E⟩:=yb V;have O:=uX G (600*d.ai.length) (hrs fr (h - 1)) λa _=>alW (hG a) (Jt d l a k);rw[Rh]at O;have W:=Jt d l h k;refine rE U E (alW (m:=(h - 1+1 - fr).toNat*(600*d.ai.length)+600*d.ai.length) (by omega) ?_);rw[<-an9];exact alX _ (by omega)
theorem aim (d:ah)(l:List bh)(fr to k:Int):vJ d l fr to k/\nk d l fr to k=lim (wv d l fr to k) (ofL d l k fr to):=by
 obtain⟨c1,c2⟩:=ZC d l fr to k;by_cases X:wv d l fr to k=0
 obtain⟨hc,W,hb⟩:=yb X;have Y:=(sR hc).right;have V:∀ (h:Int) (s0:List Claim×Int),s0.2=h->∀ j s,j< (sZ d l h k).length->q_ d l k s0 j s=.inr (s++((λc:Claim=>if K8 d c.dd h<0 then some c else none) ((sZ d l h k).getD j default)).toList):=λh s0 hs j s hj=>by
  have E:=AG (Gt _ default hj);unfold q_;rw[hs,(G3 d l h k).2,(Xe E.exp E.f0 E.f1).2];grind
 have U:=Ro (step:=l8 d l to k) (p:=nj d l to k) fr to (ofH d l k) W.1.1 (by have:=W.1.2.2;have:=Y.hours;omega) (by have:=W.1.2.1;omega)
  (λj s h h1 h2=>by
   unfold l8;simp only;rw[decide_eq_true h2,(G3 d l h k).2];simp only[cond_true];rw[Gs (sZ d l h k) default (λc:Claim=>if K8 d c.dd h<0 then some c else none) s (V h (s,h) rfl)];rfl)
  (λj s h h1=>by grind [l8])
  (λj h h1 h2=>by
   unfold nj;simp only;intro O;have O:h<=to:=of_decide_eq_true O;rw[(G3 d l h k).2];refine⟨(G3 d l h k).1,?_⟩;refine K6 (sZ d l h k) default (λc:Claim=>if K8 d c.dd h<0 then some c else none) _ (V h (_,h) rfl) λi hi=>?_;intro _;simp only;rw[(G3 d l h k).2];have E:=AG (Gt _ default hi);refine⟨(Xe E.exp E.f0 E.f1).1,λ_=>?_⟩;have h3:=Tr (G:=ofH d l k) X (λh=>by grind [ofH]) h1 O;grind [dI])
 obtain⟨r1,r2⟩:=U;rw[<-adm]at r2;refine⟨⟨c1,λ_=>⟨r1,λz hz=>by grind⟩⟩,?_⟩;unfold nk lim;grind
 have hne:(l7 d l fr to k !=0)=true:=by grind
 refine⟨⟨c1,λh=>by grind⟩,?_⟩;unfold nk lim;grind
def Qc (d:ah)(l:List bh)(k fr to:Int):List M1:=(hrs fr to).flatMap λh=>(((re d (iZ d l h k)).filterMap (opn d h)).foldl ue []).map (fnd d h)
theorem Xf{fr to:Int}(h:wv d l fr to k=0):rD d l k fr to=Qc d l k fr to:=by
 obtain⟨hc,⟨⟨a,b,c⟩,e,f⟩,_⟩:=yb h;unfold rD Qc;have:∀ L:List Int,(∀ x∈L,fr<=x/\x<=to)->(L.flatMap λh=>(sZ d l h k).map (fnd d h))=L.flatMap λh=>(((re d (iZ d l h k)).filterMap (opn d h)).foldl ue []).map (fnd d h):=λL=>by
  induction L with
  |nil=>intro _;rfl
  |cons x L U=>
   intro O;have E:=O x (by simp);rw[al5,al5,U λy hy=>O y (by simp[hy])];congr 2
   unfold sZ ma;rw[(I9 d l x k).2,if_neg (by simp[hc]),if_pos (by omega)]
 exact this _ λx E=>Zd.1 E
theorem RI{fr to:Int}{F:List M1}(h:wv d l fr to k=0)(E:Qc d l k fr to=F)(h1:decide (4096< (F.filterMap ofF).length)=false):av d l fr to k=(F.filterMap ofF,0):=by
 rw[(Jd d l fr to k).2];unfold lim ofL;rw[Xf h,E,if_pos h,if_neg (of_decide_eq_false h1)]
def yc (a0:ah)(a1:List Claim):Bool:=letI q0:=(a0.reaches.length:Int);letI q1:=(a0.l5.length:Int);(bif((((((((decide (q0 > 8))&&(decide (q0<=64))) ||(decide (q0 > 100))) ||((decide (q1 > 8))&&(decide (q1<=600)))) ||(decide (q1 > 700))) ||(decide ((a0.ai.length:Int) > 300))) ||(decide ((a0.apb.length:Int) > 300))) ||(decide ((a0.apg.length:Int) > 100)))then false else(((decide (a0.hours<=30)) ||(decide (a0.hours > 1024)))&&(decide ((a1.length:Int)<=60))))
@[go_sem] def NZ:List SV->Option Con:=(pD .al λa0=>(pR .x6 λa1=>(pE (.det True (.v (.bool (yc a0 a1)))))))
theorem Ls:zs Tryz.prog 26 NZ:=by
 have hG:=mG C1 C1;refine fN hG Tryz.f26 [.o] (ax λa0=>(bD λa1=>(am (λE=>?_))));dsimp only[an]at E;refine⟨Y2 rfl,L0,ag _,?_⟩;unfold ae Tryz.f26;try unfold yc
 exact zq2
end Go.Sx
end
section
namespace Go.Sx
open Go.Lib Go.Proofs Go.Shelf Go.Sort
open IntKind (i64)
theorem vT {α:Type}{cf:α->α->Int}(O:SWO (ltOf cf)){l m:List α}(hp:m.Perm l)(V:m.Pairwise λx y=>ltOf cf x y=true):srt cf l=m:=by
 have h1:(srt cf l).Pairwise λx y=>(!(ltOf cf y x))=true:=by
  refine amz (λa b c h1 h2=>?_) (λa b=>?_) l;simp only[al0]at h1 h2 |-;exact O.ntrans _ _ _ h2 h1;cases q:ltOf cf b a with
  |false=>rfl
  |true=>
   cases E:ltOf cf a b with
   |false=>rfl|true=>have:=O.trans _ _ _ q E;rw[O.irrefl]at this;cases this
 have h2:m.Pairwise λx y=>(!(ltOf cf y x))=true:=V.imp λ{x y} q=>by
  cases E:ltOf cf y x with
  |false=>rfl|true=>have:=O.trans _ _ _ q E;rw[O.irrefl]at this;cases this
 have U:(srt cf l).Perm l:=amE _ _;refine amJ (λa b W hb X E=>?_) h1 h2 (U.trans hp.symm);have W:a∈m:=hp.mem_iff.2 (U.mem_iff.1 W);obtain⟨i,hi,rfl⟩:=amm W;obtain⟨j,Y,rfl⟩:=amm hb;rw[amh]at V;rcases Nat.lt_trichotomy i j with q|q|q;have:=V i j hi Y q;rw[this]at E;cases E;subst q;rfl;have:=V j i Y hi q;rw[this]at X;cases X
theorem xD {d:ah}{c:List Claim}{out l:List Order}{B:List T1}(h1:d7 d c=0)(h2:decide ((i64.wrap ((d.reaches.length:Int)*d.hours)) > 1024)=false)(E:aT c=out)
  (O:bw out=false) (V:aR d out=(l,true,0)) (W:dD l d=B):
  cw d c=match B with| [] =>(l,({ kind:=0,hour:=0,index:=0,bo:=0,limit:=0}:T1),0) |f::_=>([],f,0):=by
 have U:a7 d c=(out,0):=by
  unfold a7;rw[h1,h2,E,O];rfl
 unfold cw;simp only[U,V,W,bne_self_eq_false,cond_false,alZ];cases B <;>rfl
abbrev eG (h i n:Int)(o:Bool):Order:= { hour:=h,index:=i,bo:=n,W1:=o}
end Go.Sx
end
section
namespace Go.Sx
open Go.Proofs
def t9 (dd:Int):apu:=({ name:=(ByteArray.mk #[]),kind:=1,dd:=dd,reach:=0,ao8:=0,bo:=6,since:=1,to:=3,every:=1,length:=1}:apu)
@[go_sem] def Id:List SV->Option Con:=(pI λdd=>(pE (.det True (.agg (cellsOf .right (t9 dd))))))
theorem G4:zs Tryz.prog 64 Id:=by
 have hG:=mG C1 C1;refine fN hG Tryz.f64 [.st .right] (az λdd=>(am (λE=>?_)));dsimp only[an]at E;refine⟨Y2 rfl,L0,ag _,?_⟩;unfold ae Tryz.f64;try unfold t9
 exact zq2
def bP:ah:=({ name:=(ByteArray.mk #[]),hours:=4,apa:=({ cap:=99,start:=99}:aqg),reaches:=[({ name:=(ByteArray.mk #[]),up:=(-1),delay:=1,cap:=10,apH:=50,apl:=0,apP:=({ lo:=0,hi:=0}:Range),apt:=(({ n:=0,d:=1}:B1),({ n:=0,d:=1}:B1))}:Reach)],l5:=[({ name:=(ByteArray.mk #[]),reach:=0,aqE:=0,apL:=(-1)}:aqa),({ name:=(ByteArray.mk #[]),reach:=0,aqE:=0,apL:=(-1)}:aqa)],apg:=[],ai:=[(t9 0),(t9 1)],apb:=[],apQ:=[]}:ah)
@[go_sem] def Ie:List SV->Option Con:=(pE (.det True (.agg [.v (.string ((bP).name)),.v (.int .i64 ((bP).hours)),.v (.int .i64 ((bP).apa.cap)),.v (.int .i64 ((bP).apa.start)),.nw .reach ((bP).reaches),.nw .dd ((bP).l5),.v (.slice none 0 0),.nw .right ((bP).ai),.v (.slice none 0 0),.v (.slice none 0 0)])))
theorem G5:zs Tryz.prog 24 Ie:=by
 have hG:=mG (cp G4 C1) C1;refine fE hG Tryz.f24 (am (λE=>?_));dsimp only[an]at E;refine⟨Y2 rfl,L0,ag _,?_⟩;unfold ae Tryz.f24;try unfold bP
 exact zq2
@[go_sem] def A0 (l_:List Int)(n:Int)(Q1:Nat)(ly:Unit):Unit⊕Unit:=(bif((l_.getD Q1 0) ==n)then .inl ()else .inr ())
def u5 (l_:List Int)(n:Int):Bool:=(match aj (A0 l_ n) l_.length 0 ()with| .inl gl=>true| .inr ly=>false)
@[go_sem] def N0:List SV->Option Con:=(pR .int λl_=>(pI λn=>(pE (.det True (.v (.bool (u5 l_ n)))))))
theorem Lt:zs Tryz.prog 53 N0:=by
 have hG:=mG C1 C1;refine fN hG Tryz.f53 [.o] (bD λU=>(az λn=>(am (λX=>?_))));dsimp only[an]at X;refine⟨Y2 rfl,(λid st=>bif Nat.beq id 0 then some (LCR (ρ:=Unit) (σ:=Unit) 0 [] [] (λE O=>⟨[(0,.rs .int U),(1,.v (.int .i64 n)),(5,.v (.int .i64 (E:Int)))],[]⟩) (A0 U n) pT U.length () (True) (λ_=>.ret) (λV=>⟨[(4,.v (.bool true))],[]⟩) st)else none),?_,?_⟩;unfold ae Tryz.f53;simp only[ak,true_and,and_true];refine ez (U.length<=aH) mixed aB hG kr (λ_=>rfl) (U.length:Int) rfl fj (λhb0 E O W _ hw hc=>⟨L0,ag _,?_⟩) (λhb0 O hc=>?_) λhb0 E O=>?_;exact bB (jl []);exact bC (jl []);exact zq8;unfold ae Tryz.f53;try unfold u5
 exact zq2
@[go_sem] def gh (c:List Claim)(Q1:Nat)(k_1:Nat)(s_1:List Int):Empty⊕(List Int):=(bif(((c.getD k_1 default).right==(Q1:Int))&&(!(u5 s_1 (Q1:Int))))then .inr (s_1++([(Q1:Int)]))else .inr s_1)
def ln (c:List Claim)(Q1:Nat)(k_1:Nat)(s_1:List Int):Prop:=(c.length<=aH->((((c.getD k_1 default).right==(Q1:Int))&&(!(u5 s_1 (Q1:Int))))=true->((s_1++([(Q1:Int)])).length*8<=dI)))
@[go_sem] def nL (d:ah)(c:List Claim)(Q1:Nat)(ly:List Int):Empty⊕(List Int):=(match aj (gh c Q1) c.length 0 ly with| .inl x=>x.elim| .inr s_1=>.inr s_1)
def pd (d:ah)(c:List Claim)(Q1:Nat)(ly:List Int):Prop:=(d.ai.length<=aH->okI (gh c Q1) (ln c Q1) c.length 0 ly)
def vU (d:ah)(c:List Claim):List Int:=(match aj (nL d c) d.ai.length 0 ([])with| .inl x=>x.elim| .inr ly=>ly)
def pe (d:ah)(c:List Claim):Prop:=okI (nL d c) (pd d c) d.ai.length 0 ([])
@[go_sem] def G6:List SV->Option Con:=(pD .al λd=>(pR .x6 λc=>(pE (.det (pe d c) (.rs .int (vU d c))))))
theorem DF:zs Tryz.prog 28 G6:=by
 have hG:=mG (cn [.sl .int,.o] Lt C1) C1;refine fN hG Tryz.f28 [.sl .int] (ax λd=>(bD λc=>(am (λhp=>?_))));dsimp only[an]at hp;unfold pe at hp;refine⟨Y2 rfl,(λid st=>bif Nat.beq id 0 then some (LCR (ρ:=Empty) (σ:=(List Int)) 1 [.slot 5 (.row .int ([]))] [0,1] (λE O=>⟨[(1,.rs .x6 c),(2,.ptr 0 0),(5,.os 1),(6,.v (.int .i64 (E:Int)))],[.cells (cellsOf .al d),.row .int O]⟩) (nL d c) (pd d c) d.ai.length ([]) (True) ((·.elim)) ((·.elim)) st)else none),?_,?_⟩;unfold ae Tryz.f28;simp only[ak,true_and,and_true];refine ez (d.ai.length<=aH) mixed aB hG kr (λ_=>rfl) (d.ai.length:Int) rfl fj (λhb0 E O X W hw hc=>⟨(λid st=>bif Nat.beq id 2 then some (LCR (ρ:=Empty) (σ:=(List Int)) 2 [] [0,1,1] (λV U=>⟨[(1,.rs .x6 c),(2,.ptr 0 0),(5,.os 2),(6,.v (.int .i64 (E:Int))),(7,.v (.int .i64 (V:Int)))],[.cells (cellsOf .al d),.dead,.row .int U]⟩) (gh c E) (ln c E) c.length O (True) ((·.elim)) ((·.elim)) st)else none),?_,?_⟩) (λhb0 O hc=>?_) λhb0 E O=>?_;simp only[ak,true_and,and_true];refine ez (c.length<=aH) mixed aB hG kr (λ_=>rfl) (c.length:Int) rfl fj (λhb1 V U Y hq1 hw hc=>⟨L0,ag _,?_⟩) (λhb1 U hc=>?_) λhb1 V U=>?_;unfold ln at hq1;try simp only[hw,alI]at hq1
 exact mX (jl [0,1,4]) (jl [0,1,2]);exact mY (jl [0,1,4]) (jl [0,1,2]);exact Pt;unfold pd at W;try simp only[hw,alI]at W
 exact mX (jl [0,2]) (jl [0,1]);exact mY (jl [0,2]) (jl [0,1]);exact zq8;unfold ae Tryz.f28;try unfold vU
 exact zq2
def yd (d:ah)(l_:List bh)(fr:Int)(to:Int)(known:Int):Bool:=letI q0:=nk d l_ fr to known;letI q1:=((vU d (q0.1)).length:Int);(bif((!(xY d l_ fr to)) ||(!(yc d ([]))))then false else(bif(q0.2 !=0)then true else((decide (((q0.1).length:Int)<=60))&&((decide (q1<=6)) ||(decide (q1 > 10))))))
def t_ (d:ah)(l_:List bh)(fr:Int)(to:Int)(known:Int):Prop:=(((!(xY d l_ fr to)) ||(!(yc d ([]))))=false->((vJ d l_ fr to known)/\(((nk d l_ fr to known).2 !=0)=false->(pe d ((nk d l_ fr to known).1)))))
@[go_sem] def N1:List SV->Option Con:=(pD .al λd=>(pR .u0 λl_=>(pI λfr=>(pI λto=>(pI λknown=>(pE (.det (t_ d l_ fr to known) (.v (.bool (yd d l_ fr to known))))))))))
theorem Lu:zs Tryz.prog 10 N1:=by
 have hG:=mG (cn [.st .al,.sl .u0,.o,.o] KQ (cn [.st .al,.sl .x6] Ls (cn [.st .al,.sl .u0,.o,.o,.o] Nq (cn [.st .al,.sl .x6] DF C1)))) C1;refine fN hG Tryz.f10 [.o] (ax λd=>(bD λO=>(az λfr=>(az λto=>(az λknown=>(am (λE=>?_)))))));dsimp only[an]at E;unfold t_ at E;refine⟨Y2 rfl,L0,ag _,?_⟩;unfold ae Tryz.f10;try unfold yd
 exact zq2
def gS:=({ ai:=[],kind:=0,reach:=0,hour:=0,apo:=[]}:apf)
def gT:=({ ai:=[2],kind:=0,reach:=0,hour:=0,apo:=[]}:apf)
def dS:=({ name:=bP.name,hours:=bP.hours,apa:=bP.apa,reaches:=bP.reaches,l5:=bP.l5,apg:=[],ai:=bP.ai,apb:=[],apQ:=[]}:ah)
def gW:=(aU dS ([]) 2 3 0)
def dh:=(gW.1)
def iU:=(dh.ai)
def mj:=(dh.apo)
def f8:=(iU.length:Int)
def kT:=(mj.length:Int)
def ny:=(iU.getD 1 (0:Int))
def kU:=(iU.getD 0 (0:Int))
def jD:=(mj.getD 0 (default:S1))
def jE:=(eF dS ([]) 2 3 0 gS)
def nz:=(eF dS ([]) 2 3 0 gT)
def nA:=(eF dS ([]) 3 2 0 dh)
def jF:=(eF dS ([]) 2 3 0 dh)
def nB:=({ name:=bP.name,hours:=bP.hours,apa:=bP.apa,reaches:=(bP.reaches.set 0 ({ name:=(bP.reaches.getD 0 (default:Reach)).name,up:=(bP.reaches.getD 0 (default:Reach)).up,delay:=(bP.reaches.getD 0 (default:Reach)).delay,cap:=12,apH:=(bP.reaches.getD 0 (default:Reach)).apH,apl:=(bP.reaches.getD 0 (default:Reach)).apl,apP:=(bP.reaches.getD 0 (default:Reach)).apP,apt:=(bP.reaches.getD 0 (default:Reach)).apt}:Reach)),l5:=bP.l5,apg:=[],ai:=bP.ai,apb:=[],apQ:=[]}:ah)
def jG:=(aU nB ([]) 2 3 0)
def qd:Bool:=(bif((((((((((gW.2.2 !=0) ||(jF.2 !=0)) ||(jE.2 !=0)) ||(nz.2 !=290)) ||(nA.2 !=1)) ||(jG.2.2 !=0)) ||(!gW.2.1)) ||(!jF.1)) ||jE.1) ||jG.2.1)then false else((((((((f8==2)&&(kU==0))&&(ny==1))&&(dh.kind==1))&&(dh.reach==0))&&(dh.hour==1))&&(kT==1))&&((jD.reach==0)&&((jD.hour==1)&&((jD.bo==12)&&(jD.wanted==12))))))
def r8:Prop:=((mD dS ([]) 2 3 0)/\((iT dS ([]) 2 3 0 dh)/\((iT dS ([]) 2 3 0 gS)/\((iT dS ([]) 2 3 0 gT)/\((iT dS ([]) 3 2 0 dh)/\((0<=0/\0< (bP.reaches.length:Int))/\((mD nB ([]) 2 3 0)/\(((((((((((gW.2.2 !=0) ||(jF.2 !=0)) ||(jE.2 !=0)) ||(nz.2 !=290)) ||(nA.2 !=1)) ||(jG.2.2 !=0)) ||(!gW.2.1)) ||(!jF.1)) ||jE.1) ||jG.2.1)=false->(iU.length<=aH->(((f8==2)=true->(0<=0/\0<f8))/\((((f8==2)&&(kU==0))=true->(0<=1/\1<f8))/\((((((((f8==2)&&(kU==0))&&(ny==1))&&(dh.kind==1))&&(dh.reach==0))&&(dh.hour==1))&&(kT==1))=true->(0<=0/\0<kT)))))))))))))
@[go_sem] def Lv:List SV->Option Con:=(pE (.det (r8) (.v (.bool (qd)))))
theorem If:zs Tryz.prog 9 Lv:=by
 have hG:=mG (cn [.st .al,.sl .u0,.o,.o,.o] yU (cn [.st .al,.sl .u0,.o,.o,.o,.st .refusal] DE (cp G5 C1))) C1;refine fN hG Tryz.f9 [.o] (am (λE=>?_));dsimp only[an]at E;unfold r8 at E;try simp only[gS,gT,dS,gW,dh,iU,mj,f8,kT,ny,kU,jD,jE,nz,nA,jF,nB,jG]at E
 refine⟨Y2 rfl,L0,ag _,?_⟩
 ·unfold ae Tryz.f9;try unfold qd
  simp (maxSteps:=1000000) only[go_sem,gS,gT,dS,gW,dh,iU,mj,f8,kT,ny,kU,jD,jE,nz,nA,jF,nB,jG];all_goals exact cl
end Go.Sx
end
section
namespace Go.Sx
open Go.Proofs Go.Shelf Go.Sort
abbrev r9 (f h:Int):Claim:= { right:=f,dd:=f,hour:=h,bo:=6,ao8:=0}
abbrev we:List Claim:=[r9 0 2,r9 1 2,r9 0 3,r9 1 3]
abbrev F29:T1:= { kind:=0,hour:=0,index:=0,bo:=0,limit:=0}
abbrev D29:ah:=dS
abbrev E29:ah:=nB
theorem ZD {l m:List Int}(O:m.Perm l)(E:m.Pairwise (· <= ·)):wj l=m:=by
 unfold wj;refine amJ (le:=(· <= ·)) (λa b _ _=>Int.le_antisymm) ?_ E ((amE _ _).trans O.symm);have:=amz (le:=λx y:Int=>decide (x<=y)) (λa b c h1 h2=>by grind) (λa b=>by simp;omega) l;grind
theorem ase:av D29 [] 2 3 0=(we,0):=(RI (F:=[{ x6:=r9 0 2,reach:= -1},{ x6:=r9 1 2,reach:= -1},{ x6:=r9 0 3,reach:= -1},{ x6:=r9 1 3,reach:= -1}]) kr kr kr).trans kr
theorem ain:av E29 [] 2 3 0=(we,0):=(RI (F:=[{ x6:=r9 0 2,reach:= -1},{ x6:=r9 1 2,reach:= -1},{ x6:=r9 0 3,reach:= -1},{ x6:=r9 1 3,reach:= -1}]) kr kr kr).trans kr
theorem ev0:cw D29 []=([],F29,0):=by
 have O:aT []=srt ar []:=by kernel_rfl
 rw[vT (m:=[]) j9 (by decide) (by decide)]at O;have E:aR D29 []=(srt aO [],true,0):=by kernel_rfl
 rw[vT (m:=[]) vO (by decide) (by decide)]at E;exact xD (B:=[]) kr kr O kr E kr
theorem ev1:cw D29 [r9 0 2,r9 0 3]=([eG 1 0 6 false,eG 2 0 6 false,eG 2 0 6 true,eG 3 0 6 true],F29,0):=by
 have O:aT [r9 0 2,r9 0 3]=srt ar [eG 2 0 6 true,eG 3 0 6 true]:=by kernel_rfl
 rw[vT (m:=[eG 2 0 6 true,eG 3 0 6 true]) j9 (by decide) (by decide)]at O;have E:aR D29 [eG 2 0 6 true,eG 3 0 6 true]=(srt aO [eG 2 0 6 true,eG 3 0 6 true,eG 1 0 6 false,eG 2 0 6 false],true,0):=by kernel_rfl
 rw[vT (m:=[eG 1 0 6 false,eG 2 0 6 false,eG 2 0 6 true,eG 3 0 6 true]) vO (by decide) (by decide)]at E;exact xD (B:=[]) kr kr O kr E kr
theorem ev2:cw D29 [r9 1 2,r9 1 3]=([eG 1 0 6 false,eG 2 0 6 false,eG 2 1 6 true,eG 3 1 6 true],F29,0):=by
 have O:aT [r9 1 2,r9 1 3]=srt ar [eG 2 1 6 true,eG 3 1 6 true]:=by kernel_rfl
 rw[vT (m:=[eG 2 1 6 true,eG 3 1 6 true]) j9 (by decide) (by decide)]at O;have E:aR D29 [eG 2 1 6 true,eG 3 1 6 true]=(srt aO [eG 2 1 6 true,eG 3 1 6 true,eG 1 0 6 false,eG 2 0 6 false],true,0):=by kernel_rfl
 rw[vT (m:=[eG 1 0 6 false,eG 2 0 6 false,eG 2 1 6 true,eG 3 1 6 true]) vO (by decide) (by decide)]at E;exact xD (B:=[]) kr kr O kr E kr
theorem aaK:aT we=[eG 2 0 6 true,eG 2 1 6 true,eG 3 0 6 true,eG 3 1 6 true]:=by
 have E:aT we=srt ar [eG 2 0 6 true,eG 2 1 6 true,eG 3 0 6 true,eG 3 1 6 true]:=by kernel_rfl
 rwa[vT (m:=[eG 2 0 6 true,eG 2 1 6 true,eG 3 0 6 true,eG 3 1 6 true]) j9 (by decide) (by decide)]at E
abbrev Qd:List Order:=[eG 1 0 12 false,eG 2 0 12 false,eG 2 0 6 true,eG 2 1 6 true,eG 3 0 6 true,eG 3 1 6 true]
theorem ev3:cw D29 we=([],({ kind:=1,hour:=1,index:=0,bo:=12,limit:=10}:T1),0):=by
 have E:aR D29 [eG 2 0 6 true,eG 2 1 6 true,eG 3 0 6 true,eG 3 1 6 true]=(srt aO [eG 2 0 6 true,eG 2 1 6 true,eG 3 0 6 true,eG 3 1 6 true,eG 1 0 12 false,eG 2 0 12 false],true,0):=by kernel_rfl
 rw[vT (m:=Qd) vO (by decide) (by decide)]at E;exact xD (B:=[{ kind:=1,hour:=1,index:=0,bo:=12,limit:=10},{ kind:=1,hour:=2,index:=0,bo:=12,limit:=10}]) kr kr aaK kr E kr
theorem ev4:cw E29 we=(Qd,F29,0):=by
 have E:aR E29 [eG 2 0 6 true,eG 2 1 6 true,eG 3 0 6 true,eG 3 1 6 true]=(srt aO [eG 2 0 6 true,eG 2 1 6 true,eG 3 0 6 true,eG 3 1 6 true,eG 1 0 12 false,eG 2 0 12 false],true,0):=by kernel_rfl
 rw[vT (m:=Qd) vO (by decide) (by decide)]at E;exact xD (B:=[]) kr kr aaK kr E kr
theorem Xg (d:ah):aq { d:=d,c:=we} =[0,1]:=by
 have e:aq { d:=d,c:=we} =cpI (wj [0,1,0,1]):=by kernel_rfl
 rw[e,ZD (m:=[0,0,1,1]) (by decide) (by decide)];decide
theorem N2:aD D29 [] 2 3 0=({ d:=D29,c:=we},0):=by
 grind [aD,bY,ase,ev3,Xg]
theorem aio:aD E29 [] 2 3 0=({ d:=E29,c:=we},0):=by
 grind [aD,bY,ain,ev4,Xg]
abbrev Xh:List S1:=[{ reach:=0,hour:=1,bo:=12,wanted:=12},{ reach:=0,hour:=2,bo:=12,wanted:=12}]
abbrev Lw:x4:= { d:=D29,c:=we}
theorem aip:dK Lw=Xh:=by kernel_rfl
abbrev f29:T1:= { kind:=1,hour:=1,index:=0,bo:=12,limit:=10}
theorem aiq:fI Lw Xh f29=[{ reach:=0,hour:=1,bo:=12,wanted:=12}]:=by
 have e:fI Lw Xh f29=srt bS [{ reach:=0,hour:=1,bo:=12,wanted:=12}]:=by kernel_rfl
 simp_all [srt]
abbrev W29 (z:List Int):ByteArray×Int×Int×Int×List Reach×List aqa×List aqC×List apu×List aqF×List aqD×List Claim×List Int:=(D29.name,D29.hours,D29.apa.cap,D29.apa.start,D29.reaches,D29.l5,D29.apg,D29.ai,D29.apb,D29.apQ,we,z)
theorem adA (z:List Int)(c:List Claim)(h:da Lw z= { d:=D29,c:=c})(h2:(cw D29 c).2=(F29,0)):dF D29 [] 2 3 0 z ()=.inr ():=by
 grind [dF,bq,N2]
theorem air:dF D29 [] 2 3 0 [0,1] ()=.inl (W29 [0,1]):=by
 have h:da Lw [0,1]=Lw:=by kernel_rfl
 grind [dF,bq,N2,ev3]
theorem ais:di (dF D29 [] 2 3 0) (ef (aq Lw)) ()=.inl (W29 [0,1]):=by
 have e:ef [0,1]=[[],[0],[1],[0,1]]:=by kernel_rfl
 rw[Xg,e];simp only[di,adA [] [] kr (by rw[ev0]),adA [0] [r9 0 2,r9 0 3] kr (by rw[ev1]),adA [1] [r9 1 2,r9 1 3] kr (by rw[ev2]),air]
abbrev r29:apf:= { ai:=[0,1],kind:=1,reach:=0,hour:=1,apo:=[{ reach:=0,hour:=1,bo:=12,wanted:=12}]}
theorem ait:aU D29 [] 2 3 0=(r29,true,0):=by
 unfold aU bq bY;simp only[N2,ais,ev3];show(({ ai:=[0,1],kind:=1,reach:=0,hour:=1,apo:=fI Lw (dK Lw) f29}:apf),true,(0:Int))=_;rw[aip,aiq]
theorem adB:aU E29 [] 2 3 0=(({ ai:=[],kind:=0,reach:=0,hour:=0,apo:=[]}:apf),false,0):=by
 grind [aU,bq,aio,ev4]
theorem Ts:eF D29 [] 2 3 0 r29=(true,0):=by
 unfold eF;have:aj (eX D29 [] 2 3 0 r29) r29.ai.length 0 ()=.inr ():=by
  show aj (eX D29 [] 2 3 0 r29) 2 0 ()=.inr ();simp only[aj,eX,N2,Xg];rfl
 have h2:aj (je D29 [] 2 3 0 r29) 4 0 ()=.inl true:=by
  rfl
 rw[this,h2,N2];rfl
theorem Tt:eF D29 [] 2 3 0 gS=(false,0):=by
 unfold eF;have:aj (eX D29 [] 2 3 0 gS) gS.ai.length 0 ()=.inr ():=by
  rfl
 have h2:aj (je D29 [] 2 3 0 gS) 4 0 ()=.inr ():=by
  rfl
 grind [N2]
theorem Tu:eF D29 [] 2 3 0 gT=(false,290):=by
 unfold eF;have:aj (eX D29 [] 2 3 0 gT) gT.ai.length 0 ()=.inl ():=by
  show aj (eX D29 [] 2 3 0 gT) 1 0 ()=.inl ();simp only[aj,eX,N2,Xg];rfl
 grind [N2]
theorem Tv (r:apf):(eF D29 [] 3 2 0 r).2=1:=by
 rfl
theorem Xi:qd=true:=by
 unfold qd jG jD kU ny kT f8 mj iU jF nA nz jE dh gW;simp_all [ait,adB,Ts,Tv,Tu,Tt]
end Go.Sx
end
section
namespace Go.Sx
open Go.Proofs
structure Lsr (d:ah)(T:aqg)(R:List Reach):Prop where
 d0:aw d=0
 x0:aw { d with apa:=T,reaches:=R} =0
 len:R.length=d.reaches.length
 at_:∀ i,∃ c b,R.getD i default= { d.reaches.getD i default with cap:=c,apH:=b}/\c<=(d.reaches.getD i default).cap/\b<=(d.reaches.getD i default).apH
 start:T.start<=d.apa.start
section
variable {d:ah}{T:aqg}{R:List Reach}(h:Lsr d T R)
include h
end
theorem N3 (c:List Claim)(E:Nat)(hc:c.length<=4096)(s:List Int)(X:s.length<=E*4096)(Y:E<256):okI (gh c E) (ln c E) c.length 0 s/\∀ r,aj (gh c E) c.length 0 s=.inr r->r.length<=(E+1)*4096:=by
 have O:∀ j (t:List Int),t.length<=E*4096+j->∀ t',gh c E j t=.inr t'->t'.length<=E*4096+(j+1):=λj t U t' e=>by
  unfold gh at e;cases q:(((c.getD j (default:Claim)).right==(E:Int))&&(!(u5 t (E:Int))))with
  |true=>rw[q]at e;cases e;rw[alN];simp only[alL,alS];omega|false=>rw[q]at e;cases e;omega
 constructor
 refine jk (λj t=>t.length<=E*4096+j) _ _ _ (by omega) λj t _ V U=>⟨λ_ _=>?_,O j t U⟩;rw[alN];simp only[alL,alS];unfold dI;omega;intro r W;have:=sJ (λj t=>t.length<=E*4096+j) _ _ _ (by omega) (λj t _ V U=>O j t U) r W;omega
theorem ast (d:ah)(c:List Claim)(hc:c.length<=4096)(hd:d.ai.length<=256):pe d c:=by
 refine jk (λj (t:List Int) =>t.length<=j*4096) _ _ _ (by simp) λj t _ O E=>⟨λ_=>(N3 c j hc t E (by omega)).1,λt' e=>?_⟩;unfold nL at e;cases q:aj (gh c j) c.length 0 t with
 |inl x=>exact x.elim
 |inr r=>rw[q]at e;cases e;exact(N3 c j hc t E (by omega)).2 _ q
theorem ZE (d:ah)(l:List bh)(fr to k:Int):t_ d l fr to k:=by
 intro _;refine⟨(aim d l fr to k).1,λh=>?_⟩;have e:nk d l fr to k=av d l fr to k:=(aim d l fr to k).2.trans (Jd d l fr to k).2.symm;rw[e]at h |-;refine ast _ _ (zD d l fr to k) ?_;have h:(lim (wv d l fr to k) (ofL d l k fr to)).2=0:=by rw[<-(Jd d l fr to k).2];simpa using h
 have O:wv d l fr to k=0:=by
  unfold lim at h;split at h
  assumption
  exact h
 have E:aw d=0:=by
  have:=(yb O).1;unfold a8 at this;cases q:(aw d !=0)with
  |true=>rw[q]at this;exact this|false=>simpa using q
 have:=((qU d).1 E).1;omega
theorem bt {c X:Bool}(h:c=false->X=true):(bif c then true else X)=true:=by
 cases c with
 |true=>rfl|false=>exact h rfl
theorem A2:∀ (n:Nat) (s l z:List Int),z∈chz n s l↔∃ y,y.Sublist l/\y.length=n/\z=s++y
 |0,s,l,z=>by
  rw[AV,aml];exact⟨λh=>⟨[],List.nil_sublist _,rfl,by grind⟩,λ⟨y,_,hy,e⟩ =>by grind⟩
 |n+1,s,[],z=>by
  grind [chz]
 |n+1,s,x::l,z=>by
  simp only[chz];split
  exact⟨λh=>(by cases h),λ⟨y,h,hy,_⟩ =>by have:=h.length_le;simp only[alL]at this;omega⟩;rw[amj,A2 n,A2 (n+1)];constructor
  rintro (⟨y,h,hy,e⟩ | ⟨y,h,hy,e⟩);exact⟨x::y,h.cons_cons x,by rw[alL,hy],by rw[e,amt];rfl⟩;exact⟨y,h.cons x,hy,e⟩;rintro⟨y,h,hy,e⟩;cases h with
  |cons _ h=>exact .inr ⟨y,h,hy,e⟩
  | @cons_cons E _ _ h=>exact .inl ⟨E,h,by simpa using hy,by rw[e,amt];rfl⟩
variable {l z:List Int}
theorem CZ{y:List Int}{A B:List (List Int)}(h:u4 l=A++z::B)(hy:y.Sublist l)(U:y.length<z.length):y∈A:=by
 have V:z.length<=l.length:=Js (by rw[h];simp);have e:u4 l=((List.range' 0 z.length).flatMap λn=>chz n [] l)++(List.range' z.length (l.length+1 - z.length)).flatMap λn=>chz n [] l:=by
  unfold u4;rw[show l.length+1=z.length+(l.length+1 - z.length) by omega,<-aoN,anK,alQ,anU]
 have E:y∈(List.range' 0 z.length).flatMap λn=>chz n [] l:=am0.2 ⟨y.length,by grind,(A2 _ _ _ _).2 ⟨y,hy,rfl,rfl⟩⟩;rw[e]at h;rcases List.append_eq_append_iff.1 h with⟨C,h1,_⟩ | ⟨C,h1,h2⟩;grind
 cases C with
 |nil=>grind
 |cons c C=>
  have hc:z∈(List.range' 0 z.length).flatMap λn=>chz n [] l:=by grind
  obtain⟨n,W,O⟩:=am0.1 hc;have:=D2 _ _ _ _ O;grind
theorem G7:z∈u4 l↔z.Sublist l:=by
 unfold u4;rw[am0];constructor
 rintro⟨n,_,h⟩;obtain⟨y,h1,_,rfl⟩:=(A2 _ _ _ _).1 h;exact h1;exact λh=>⟨z.length,by grind,(A2 _ _ _ _).2 ⟨z,h,rfl,rfl⟩⟩
variable {S:List Int}
theorem RJ{j:Nat}(h:j<S.length)(E:Lib.keeps S.toArray j=true):S[j]∈cpI S:=by
 unfold cpI Lib.compact Lib.compactUpTo;exact anh.2 ⟨j,ang.2 ⟨am_.2 h,E⟩,by simp[h]⟩
theorem Xj {S:List Int}:∀ (j:Nat) (h:j<S.length),S[j]∈cpI S
 |0,h=>RJ h (by rfl)
 |j+1,h=>by
  by_cases E:Lib.keeps S.toArray (j+1)=true
  exact RJ h E;have h2:j<S.length:=by omega
  have e:S[j+1]=S[j]:=by
   grind [Lib.keeps]
  rw[e];exact Xj j h2
theorem aiu(O:S.Pairwise (· <= ·)):(cpI S).Pairwise (· < ·):=by
 unfold cpI Lib.compact Lib.compactUpTo;refine anC.2 (List.Pairwise.imp_of_mem ?_ (List.pairwise_lt_range.filter _));intro i j hi U E;obtain⟨_,_⟩:=ang.1 hi;obtain⟨h1,h2⟩:=ang.1 U;have h1:=am_.1 h1;unfold Lib.keeps at h2;rw[decide_eq_true_eq]at h2;have V:S[j]≠S[j - 1]:=by
  grind
 have q:=amh.1 O;grind
theorem G8 (s:x4):aq s=cpI (wj (s.c.map λx=>x.right)):=by
 have key:∀ (L K:List Claim) (t:List Int),s.c=K++L->aj (eZ s) L.length K.length t=.inr (t++L.map λx=>x.right):=λL=>by
  induction L with
  |nil=>grind [aj]
  |cons x L E=>
   intro K t h;have g:s.c.getD K.length default=x:=by rw[h];simp
   rw[alL,aj];unfold eZ;simp only[g];have:=E (K++[x]) (t++[x.right]) (by grind);rw[alN]at this;unfold eZ at this;grind
 have:=key s.c [] [] rfl;grind [aq]
theorem G9 {s:x4}{x:Claim}(h:x∈s.c):x.right∈aq s:=by
 rw[G8];have:x.right∈wj (s.c.map λx=>x.right):=by unfold wj;exact List.mem_mergeSort.2 (anh.2 ⟨x,h,rfl⟩)
 obtain⟨j,E,e⟩:=amk.1 this;rw[<-e];exact Xj j E
theorem Tw (s:x4):(aq s).Pairwise (· < ·):=by
 rw[G8];refine aiu ?_;unfold wj;refine(amz (le:=λx y=>decide (x<=y)) (λa b c h1 h2=>?_) (λa b=>?_) _).imp λh=>of_decide_eq_true h <;>grind
def Lx (s:x4):(aq s).Nodup:=(Tw s).imp λh=>Int.ne_of_lt h
theorem Xk{m:List Int}(U:l.Nodup)(h:∀ x∈l,x∈m):l.length<=m.length:=by
 induction l generalizing m with
 |nil=>grind
 |cons x l E=>
  have V:=h x (by simp);have O:=ami.1 U;have:=E (m:=m.erase x) O.2 λy hy=>(List.mem_erase_of_ne (by grind)).2 (h y (by simp[hy]));grind
theorem N4 (n:Int)(l:List Int):dQ l n=l.any λy=>n==y:=by
 unfold dQ jn;rcases xp (step:=jT l n) l (0:Int) (λy=>n==y) (λk _=>rfl)with⟨e,h⟩ | ⟨K,y,R,E,e,h,_⟩ <;>grind
theorem Ly (x:Claim)(l:List Int):bA x l= !l.any λy=>x.right==y:=by
 unfold bA;rw[N4]
end Go.Sx
end
