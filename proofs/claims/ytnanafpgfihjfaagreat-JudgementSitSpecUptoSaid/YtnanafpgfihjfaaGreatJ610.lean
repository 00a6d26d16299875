/- Part of the proof that the law JudgementSitSpec returns true and leaves its arguments as they were, for all arguments of bulk at most 1048576 (the Upto form). -/
import Derived.Test.YtnanafpgfihjfaaGreatJ609
import Derived.Test.YtnanafpgfihjfaaGreatJ606
import Derived.Test.YtnanafpgfihjfaaGreatJ608
import Derived.Test.YtnanafpgfihjfaaGreatJ607
import Derived.Test.YtnanafpgfihjfaaGreatJ601
set_option linter.all false
set_option maxHeartbeats 4000000
set_option maxRecDepth 100000
section
namespace Go.Sx
open Go.Lib Go.Proofs Go.RowKit Go.Shelf Go.Sort
def uT:List SV->Option Con:=pU fun n=>pE (.det (0<=n/\n<18446744073709551616) (.v (.int .i64 ((Go.Lib.bitLen n.toNat:Nat):Int))))
attribute [go_sem] uT
theorem I9:FnOk Tryz.prog 144 uT where
 enter:=fun l c h args w=>enters_of Tryz.sortLk.f15 kr rfl args w
 calls:=fun l c h hp F w vs hF hvs=>by
  unfold uT at h;obtain⟨n,r,rfl,h0⟩:=zW h;obtain⟨rfl,rfl⟩:=Ck h0;obtain⟨p1,p2⟩:=hp;have q:=bF (hvs.2 0 _ rfl);have hv:vs= #[.int .u64 n]:=by
   apply Array.ext
   ·simpa using hvs.1
   ·intro i h1 h2;have:i=0:=by simp at h2;exact h2
    subst this;simp only[Array.getD,h1,dif_pos]at q;exact q
  subst hv;have:=Any.bits_Len (P:=Tryz.prog) (ρ:=Tryz.sortLk_ren.viaSlsf) (SlLaysF0.n15.bits (P:=Tryz.prog) (ρ:=Tryz.sortLk_ren) { Tryz.sortLk with}) n w p1 (by omega);refine this.mono fun e w' he=>?_;obtain⟨rfl,rfl⟩:=he;exact .inl ⟨_,_,ct,rfl,rfl,⟨vC hF,Rel.v _,fun _ _ _ e=>by cases e⟩,Below.refl _ _⟩
noncomputable def I_:List SV->List Ob->Option HCon:=Eh .claim 95 [] dx
@[go_sem] theorem Xm {l0:List Claim}{z n lim:Int}:I_ [.os 0,.v (.int .i64 z),.v (.int .i64 n),.v (.int .i64 lim),.fn 95 [] []] [.row .claim l0]=some (je (z=0/\n=(l0.length:Int)/\0<=lim/\lim<4611686018427387904/\apart dx l0) (.tup []) [.row .claim (srt dx l0)]):=Ow
theorem Hm:Fx .claim:=fun x s hs=>by
 simp only[cellsOf,List.mem_cons,List.not_mem_nil,or_false]at hs;rcases hs with rfl|rfl|rfl|rfl|rfl;all_goals exact⟨_,rfl,rfl⟩
theorem Hn (x y:Claim):s4 (.agg (cellsOf .claim x):: .agg (cellsOf .claim y)::[])=some (.det True (.v (.int .i64 (dx x y)))):=by
 simp only[go_sem,Nat.reduceBEq]
theorem RA:FnOkO Tryz.prog 143 I_:=
 US (k:=.claim) Tryz.sortLk (fun w=>by kernel_rfl) (fun w=>by kernel_rfl) Hm (by decide) (g:=95) (caps:=[]) xG (cf:=dx) Hn Ha (fun s hs=>by cases hs) ⟨default,default,Hn _ _⟩
end Go.Sx
end
section
namespace Go.Sx
open Go.Proofs
open IntKind (i64 u64)
@[go_sem] def cO (s_:List Claim)(k_0:Nat)(s_0:Unit):Int⊕Unit:=(bif(aX (s_.getD k_0 default))then .inl (k_0:Int)else .inr ())
def aB (s_:List Claim):Int:=(match aq (cO s_) s_.length 0 ()with| .inl x_0_0=>x_0_0| .inr s_0=>(-1))
@[go_sem] def eS:List SV->Option Con:=(pR .claim fun s_=>(pFn 93 (pE ((pE (.det True (.v (.int .i64 (aB s_)))))))))
theorem jf:FnOk Tryz.prog 142 eS:=by
 have hG:ConsOk Tryz.prog (mkG [(93,oK)] []):=am (cgc sg cg0) cg0;refine av [.o] mixed ai hG (fn:=Tryz.f142) (c:=aa Tryz.f142) kr kr kr kr (a_ fun s_=>(bH (ah ((ah (fun hp=>?_))))));dsimp only[an]at hp;refine⟨nbl rfl,(fun id st=>bif Nat.beq id 0 then some (LCR (ρ:=Int) (σ:=Unit) 0 [] [] (fun k_0 s_0=>⟨[(0,.rs .claim s_),(1,.fn 93 [] []),(7,.v (.int .i64 (s_.length:Int))),(8,.v (.int .i64 (k_0:Int)))],[]⟩) (cO s_) pT s_.length () (s_.length<=aA) (fun _=>.ret) (fun x_0_0=>⟨[(4,.v (.int .i64 x_0_0))],[]⟩) st)else none),?_,?_⟩
 ·unfold aa Tryz.f142;simp only[ak,true_and,and_true]
  ·refine bh mixed ai hG kr (fun _=>rfl) (s_.length:Int) rfl dV (fun hb0 k_0 s_0 hlt0 _ hw hc=>⟨L0,ag _,?_⟩) (fun hb0 s_0 hc=>?_)
   ·exact aL (jl [])
   ·exact aK (jl [])
 ·unfold aa Tryz.f142;try unfold aB
  exact zq1
@[go_sem] noncomputable def c7:List SV->Option Con:=fun l=>(orC (cU l) (eS l))
theorem jw:FnOk Tryz.prog 142 c7:=(FnOk.or eP jf)
@[go_sem] def aU (l_:List Claim)(k_0:Nat)(s_0:List Claim×Int×Int):(Int×List Claim)⊕(List Claim×Int×Int):=letI q0:=s_0.1.getD (Int.toNat s_0.2.2) default;letI q1:=i64.wrap (s_0.2.2+1);(bif(decide (s_0.2.2< (s_0.1.length:Int)))then(bif(!(aX q0))then .inr ((s_0.1.set (Int.toNat s_0.2.1) q0),(i64.wrap (s_0.2.1+1)),q1)else .inr (s_0.1,s_0.2.1,q1))else .inl (s_0.2.1,s_0.1))
def a8 (l_:List Claim)(k_0:Nat)(s_0:List Claim×Int×Int):Prop:=(s_0.1.length<=aA->((decide (s_0.2.2< (s_0.1.length:Int)))=true->((0<=s_0.2.2/\s_0.2.2< (s_0.1.length:Int))/\((!(aX (s_0.1.getD (Int.toNat s_0.2.2) default)))=true->(0<=s_0.2.1/\s_0.2.1< (s_0.1.length:Int))))))
def aG (l_:List Claim):List Claim:=letI q0:=aB l_;(bif(q0==(-1))then l_ else(match aq (aU l_) (l_.length+1) 0 (l_,q0,(i64.wrap (q0+1)))with| .inl x_0_0=>(((BA .claim x_0_0.2 x_0_0.1 (x_0_0.2.length:Int)).take (Int.toNat x_0_0.1)).drop 0) | .inr s_0=>default))
def aN (l_:List Claim):Prop:=letI q0:=aB l_;letI q1:=aU l_;letI q2:=(l_,q0,(i64.wrap (q0+1)));letI q3:=l_.length+1;((q0==(-1))=false->(okI q1 (a8 l_) q3 0 q2/\(∀ z_,aq q1 q3 0 q2≠ .inr z_)/\(∀ x_0_0,aq q1 q3 0 q2=.inl x_0_0->((0<=x_0_0.1/\x_0_0.1<=(x_0_0.2.length:Int))/\(0<=0/\0<=x_0_0.1/\x_0_0.1<=((BA .claim x_0_0.2 x_0_0.1 (x_0_0.2.length:Int)).length:Int))))))
noncomputable def c8:List SV->List Ob->Option HCon:=pC (fun x_:(List Claim) =>[.os 0,.fn 93 [] []]) (fun x_=>[.row .claim x_]) (fun x_=>je (aN x_) (.os 1) [.dead,.row .claim (aG x_)])
@[go_sem] theorem tE (l_:List Claim):c8 ([.os 0,.fn 93 [] []]) ([.row .claim l_])=some (je (aN l_) (.os 1) [.dead,.row .claim (aG l_)]):=lM (A:=fun x_:(List Claim) =>[.os 0,.fn 93 [] []]) (H:=fun x_=>[.row .claim x_]) (K:=fun x_=>je (aN x_) (.os 1) [.dead,.row .claim (aG x_)]) (x:=l_)
theorem zq60 {l0 l1:List Nat}(a0:JL l0)(a1:JL l1){p:Prop}(h:JL l0->JL l1->p:=by intro ja jb;simp only[go_sem,Nat.reduceBEq,Nat.reduceLeDiff,Nat.reduceLT,decide_true,Nat.reduceAdd,Nat.reduceSub,Nat.reduceMul,Int.reduceLE,Int.reduceLT,Int.reduceToNat,Int.reduceNeg,reduceCtorEq,c7];all_goals exact sX ja jb):p:=h a0 a1
theorem jx:FnOkO Tryz.prog 92 (c8):=by
 have hG:ConsOk Tryz.prog (mkG [(93,oK),(142,fun l=>c7 (aP [.sl .claim,.o] l))] []):=am (cgc sg (cgc (jw.norm [.sl .claim,.o]) cg0)) cg0;refine oe mixed ai hG (fn:=Tryz.f92) (c:=aa Tryz.f92) kr kr kr kr fun l o con h=>?_;obtain⟨l_,rfl,rfl,rfl⟩:=jJ h;clear h;try dsimp only
 refine⟨_,_,_,rfl,fun hp=>?_⟩;unfold aN at hp;refine⟨nbl rfl,(fun id st=>bif Nat.beq id 0 then some (LCV (ρ:=(Int×List Claim)) (σ:=(List Claim×Int×Int)) 1 [] [0] (fun k_0 s_0=>⟨[(0,.os 0),(1,.fn 93 [] []),(5,.v (.int .i64 s_0.2.1)),(6,.v (.int .i64 s_0.2.2))],[.row .claim s_0.1]⟩) (aU l_) (a8 l_) (l_.length+1) (l_,(aB l_),(i64.wrap ((aB l_)+1))) (fun _=>.normal) (fun x_0_0=>⟨[(0,.os 0),(5,.v (.int .i64 x_0_0.1))],[.row .claim x_0_0.2]⟩) st)else none),?_,?_⟩
 ·unfold aa Tryz.f92;simp only[ak,true_and,and_true,and_assoc]
  ·refine pj mixed ai hG kr (fun _=>rfl) fun k_0 s_0 hq0=>⟨L0,ag _,?_⟩
   ·unfold a8 at hq0;exact sZ (jl [0])
 ·unfold aa Tryz.f92;try unfold aG
  exact zq60 (jl [0,0]) (jl [0,1])
def bb (l_:List Claim):List Claim:=(srt dx l_)
def aY (l_:List Claim):Prop:=letI q2:=(l_.length:Int);letI q0:=u64.wrap q2;letI q1:=((Go.Lib.bitLen (Int.toNat q0):Nat):Int);(l_.length<=aA->((0<=q0/\q0<18446744073709551616)/\(0=0/\q2=q2/\0<=q1/\q1<4611686018427387904/\apart dx l_)))
noncomputable def dz:List SV->List Ob->Option HCon:=pC (fun x_:(List Claim) =>[.os 0,.fn 95 [] []]) (fun x_=>[.row .claim x_]) (fun x_=>je (aY x_) (.tup []) [.row .claim (bb x_)])
@[go_sem] theorem t_ (l_:List Claim):dz ([.os 0,.fn 95 [] []]) ([.row .claim l_])=some (je (aY l_) (.tup []) [.row .claim (bb l_)]):=lM (A:=fun x_:(List Claim) =>[.os 0,.fn 95 [] []]) (H:=fun x_=>[.row .claim x_]) (K:=fun x_=>je (aY x_) (.tup []) [.row .claim (bb x_)]) (x:=l_)
theorem zq61 {l0:List Nat}(a0:JL l0){p:Prop}(h:JL l0->p:=by intro ja;simp only[go_sem,Nat.reduceBEq,Nat.reduceLeDiff,Nat.reduceLT,decide_true,Nat.reduceAdd,Nat.reduceSub,Nat.reduceMul,Int.reduceLE,Int.reduceLT,Int.reduceToNat,Int.reduceNeg,reduceCtorEq,uT];all_goals exact jr ja):p:=h a0
theorem jY:FnOkO Tryz.prog 94 (dz):=by
 have hG:ConsOk Tryz.prog (mkG [(144,uT)] [(143,I_)]):=am (cgc I9 cg0) (cgc RA cg0);refine oe mixed ai hG (fn:=Tryz.f94) (c:=aa Tryz.f94) kr kr kr kr fun l o con h=>?_;obtain⟨l_,rfl,rfl,rfl⟩:=jJ h;clear h;try dsimp only
 refine⟨_,_,_,rfl,fun hp=>?_⟩;unfold aY at hp;refine⟨nbl rfl,L0,?_,?_⟩
 ·unfold aa Tryz.f94;simp only[ak,and_self,true_and,and_true]
 ·unfold aa Tryz.f94;try unfold bb
  exact zq61 (jl [0])
def dW (l_:List Claim):List Claim:=(bb (aG l_))
def cS (l_:List Claim):Prop:=((aN l_)/\(aY (aG l_)))
noncomputable def qB:List SV->List Ob->Option HCon:=pC (fun x_:(List Claim) =>[.os 0]) (fun x_=>[.row .claim x_]) (fun x_=>je (cS x_) (.os 1) [.dead,.row .claim (dW x_)])
@[go_sem] theorem HV (l_:List Claim):qB ([.os 0]) ([.row .claim l_])=some (je (cS l_) (.os 1) [.dead,.row .claim (dW l_)]):=lM (A:=fun x_:(List Claim) =>[.os 0]) (H:=fun x_=>[.row .claim x_]) (K:=fun x_=>je (cS x_) (.os 1) [.dead,.row .claim (dW x_)]) (x:=l_)
theorem zd:FnOkO Tryz.prog 47 (qB):=by
 have hG:ConsOk Tryz.prog (mkG [] [(92,c8),(94,dz)]):=am cg0 (cgc jx (cgc jY cg0));refine oe mixed ai hG (fn:=Tryz.f47) (c:=aa Tryz.f47) kr kr kr kr fun l o con h=>?_;obtain⟨l_,rfl,rfl,rfl⟩:=jJ h;clear h;try dsimp only
 refine⟨_,_,_,rfl,fun hp=>?_⟩;unfold cS at hp;refine⟨nbl rfl,L0,?_,?_⟩
 ·unfold aa Tryz.f47;simp only[ak,and_self,true_and,and_true]
 ·unfold aa Tryz.f47;try unfold dW
  exact sZ (jl [0,1])
@[go_sem] def jg (x:Judgement)(l_:List Claim)(k_0:Nat)(s_0:List Claim×Int):Empty⊕(List Claim×Int):=letI q1:=s_0.1.getD k_0 default;letI q0:=s_0.1.set k_0 ({ right:=q1.right,farm:=q1.farm,hour:=q1.hour,litres:=(if s_0.2<q1.litres then s_0.2 else q1.litres),rank:=q1.rank}:Claim);(bif(q1.farm==x.farm)then .inr (q0,(i64.wrap (s_0.2 - (q0.getD k_0 default).litres)))else .inr (s_0.1,s_0.2))
def ev (x:Judgement)(l_:List Claim)(k_0:Nat)(s_0:List Claim×Int):Prop:=letI q0:=s_0.1.getD k_0 default;letI q2:=(k_0:Int);letI q1:=0<=q2/\q2< (s_0.1.length:Int);(q1/\((q0.farm==x.farm)=true->(q1/\(q1/\(0<=q2/\q2< ((s_0.1.set k_0 ({ right:=q0.right,farm:=q0.farm,hour:=q0.hour,litres:=(if s_0.2<q0.litres then s_0.2 else q0.litres),rank:=q0.rank}:Claim)).length:Int))))))
def cV (x:Judgement)(l_:List Claim):List Claim:=(match aq (jg x l_) l_.length 0 (l_,x.n)with| .inl x=>x.elim| .inr s_0=>s_0.1)
def cn (x:Judgement)(l_:List Claim):Prop:=(l_.length<=aA->okI (jg x l_) (ev x l_) l_.length 0 (l_,x.n))
noncomputable def jL:List SV->List Ob->Option HCon:=pC (fun x_:Judgement×(List Claim) =>[.os 0,.agg (cellsOf .judgement x_.1)]) (fun x_=>[.row .claim x_.2]) (fun x_=>je (cn x_.1 x_.2) (.os 0) [.row .claim (cV x_.1 x_.2)])
@[go_sem] theorem Bg (x:Judgement)(l_:List Claim):jL ([.os 0,.agg [.v (.int .i64 x.no),.v (.int .i64 x.hour),.v (.int .i64 x.kind),.v (.int .i64 x.farm),.v (.int .i64 x.other),.v (.int .i64 x.since),.v (.int .i64 x.to),.v (.int .i64 x.n),.v (.int .i64 x.of_)]]) ([.row .claim l_])=some (je (cn x l_) (.os 0) [.row .claim (cV x l_)]):=lM (A:=fun x_:Judgement×(List Claim) =>[.os 0,.agg (cellsOf .judgement x_.1)]) (H:=fun x_=>[.row .claim x_.2]) (K:=fun x_=>je (cn x_.1 x_.2) (.os 0) [.row .claim (cV x_.1 x_.2)]) (x:=(x,l_))
theorem tG:FnOkO Tryz.prog 88 (jL):=by
 have hG:ConsOk Tryz.prog (mkG [] []):=am cg0 cg0;refine oe mixed ai hG (fn:=Tryz.f88) (c:=aa Tryz.f88) kr kr kr kr fun l o con h=>?_;obtain⟨⟨x,l_⟩,rfl,rfl,rfl⟩:=jJ h;clear h;try dsimp only
 refine⟨_,_,_,rfl,fun hp=>?_⟩;unfold cn at hp;refine⟨nbl rfl,(fun id st=>bif Nat.beq id 0 then some (LCR (ρ:=Empty) (σ:=(List Claim×Int)) 2 [] [0,1] (fun k_0 s_0=>⟨[(0,.os 0),(3,.ptr 1 0),(5,.v (.int .i64 s_0.2)),(10,.v (.int .i64 (l_.length:Int))),(11,.v (.int .i64 (k_0:Int)))],[.row .claim s_0.1,.cells (cellsOf .judgement x)]⟩) (jg x l_) (ev x l_) l_.length (l_,x.n) (l_.length<=aA) ((·.elim)) ((·.elim)) st)else none),?_,?_⟩
 ·unfold aa Tryz.f88;simp only[ak,true_and,and_true,and_assoc]
  ·refine bh mixed ai hG kr (fun _=>rfl) (l_.length:Int) rfl dV (fun hb0 k_0 s_0 hlt0 hq0 hw hc=>⟨L0,ag _,?_⟩) (fun hb0 s_0 hc=>?_)
   ·unfold ev at hq0;try simp only[hw,Int.toNat_natCast]at hq0
    exact aL (jl [0,1])
   ·exact aK (jl [0,1])
 ·unfold aa Tryz.f88;try unfold cV
  exact sZ (jl [0])
def wc (x:Judgement)(l_:List Claim):Unit:=()
noncomputable def ku:List SV->List Ob->Option HCon:=pC (fun x_:Judgement×(List Claim) =>[.os 0,.agg (cellsOf .judgement x_.1)]) (fun x_=>[.row .claim x_.2]) (fun x_=>je True (.os 0) [.row .claim x_.2])
@[go_sem] theorem CP (x:Judgement)(l_:List Claim):ku ([.os 0,.agg [.v (.int .i64 x.no),.v (.int .i64 x.hour),.v (.int .i64 x.kind),.v (.int .i64 x.farm),.v (.int .i64 x.other),.v (.int .i64 x.since),.v (.int .i64 x.to),.v (.int .i64 x.n),.v (.int .i64 x.of_)]]) ([.row .claim l_])=some (je True (.os 0) [.row .claim l_]):=lM (A:=fun x_:Judgement×(List Claim) =>[.os 0,.agg (cellsOf .judgement x_.1)]) (H:=fun x_=>[.row .claim x_.2]) (K:=fun x_=>je True (.os 0) [.row .claim x_.2]) (x:=(x,l_))
theorem un:FnOkO Tryz.prog 90 (ku):=by
 have hG:ConsOk Tryz.prog (mkG [] []):=am cg0 cg0;refine oe mixed ai hG (fn:=Tryz.f90) (c:=aa Tryz.f90) kr kr kr kr fun l o con h=>?_;obtain⟨⟨x,l_⟩,rfl,rfl,rfl⟩:=jJ h;clear h;try dsimp only
 refine⟨_,_,_,rfl,fun hp=>?_⟩;refine⟨nbl rfl,L0,?_,?_⟩
 ·unfold aa Tryz.f90;simp only[ak,and_self,true_and,and_true]
 ·unfold aa Tryz.f90;try unfold wc
  exact sZ (jl [0])
@[go_sem] theorem abr {f:FuncId}:zJ (.fn f [] [])=some [.fn f [] []]:=(rfl)
theorem L_ {κ υ:Type}[DecidableEq κ](l:List (κ×υ))(x z:κ)(y:υ):nu (zI l x y) z=if z=x then some y else nu l z:=by
 induction l with
 |nil=>simp[zI,nu]
 |cons a r ih=>
  obtain⟨a,b⟩:=a;unfold zI;by_cases h:x=a
  ·subst h;simp only[if_pos];unfold nu;by_cases hz:z=x <;>simp[hz]
  ·rw[if_neg h];unfold nu;by_cases hz:z=a
   ·subst hz;rw[if_pos rfl,if_neg (fun e=>h e.symm),if_pos rfl]
   ·rw[if_neg hz,ih,if_neg hz]
def fu:List (Int×(Option Nat)):=(iH .int .fnc (iH .int .fnc (iH .int .fnc (iH .int .fnc ([]) 1 (some 88)) 2 (some 88)) 3 (some 89)) 4 (some 90))
@[go_sem] def ua:List SV->Option Con:=(pE (.det True (.nm .int .fnc (fu))))
theorem yz:FnOk Tryz.prog 42 ua:=by
 have hG:ConsOk Tryz.prog (mkG [] []):=am cg0 cg0;refine CK [] mixed ai hG (fn:=Tryz.f42) (c:=aa Tryz.f42) kr kr kr kr (ah (fun hp=>?_));dsimp only[an]at hp;refine⟨nbl rfl,L0,ag _,?_⟩
 ·unfold aa Tryz.f42;try unfold fu
  exact zq1
theorem qC (k:Int):bg .int .fnc fu k=bif k==1 then some 88 else bif k==2 then some 88 else bif k==3 then some 89 else bif k==4 then some 90 else none:=by
 by_cases h1:k=1
 ·subst h1;rfl
 by_cases h2:k=2
 ·subst h2;rfl
 by_cases h3:k=3
 ·subst h3;rfl
 by_cases h4:k=4
 ·subst h4;rfl
 have e1:(k==1)=false:=by simpa using h1
 have e2:(k==2)=false:=by simpa using h2
 have e3:(k==3)=false:=by simpa using h3
 have e4:(k==4)=false:=by simpa using h4
 rw[e1,e2,e3,e4];simp only[fu,bg,iH,L_,if_neg h1,if_neg h2,if_neg h3,if_neg h4];rfl
end Go.Sx
end
section
namespace Go.Sx
open Go.RowKit
open IntKind (i64)
abbrev RF:= { r:Nat->Res // ∀ k,(r k).n=k}
def Ma (items:List (List SV))(r:RF):List SV->Res->Option YCon:=itY items r.1
@[go_sem] theorem abt {items:List (List SV)}{r:RF}{k:Nat}{args:List SV}:Ma items r args (r.1 (k+1))=some (GZ (items[k]? =some args) r.1 (k+2)):=NE r.2 k args
section
variable {ρ σ:Type}
def lcy (pre:Prop)(run:ρ⊕σ)(exE:ρ->Ex)(outE:ρ->St)(outN:σ->St)(stp:St):LCon where
 α:=Option (ρ⊕σ)
 pre:=pre
 post:=fun|none=>True|some r=>r=run
 ex:=fun|none=>.ret|some (.inl x) =>exE x|some (.inr _) =>.normal
 out:=fun|none=>stp|some (.inl x) =>outE x|some (.inr s) =>outN s
def LCY (m:Nat)(ns:List NLoc)(js:List Nat)(D:Nat->σ->St)(step:Nat->σ->ρ⊕σ)(p:Nat->σ->Prop)(n:Nat)(s0:σ)(B:Prop)(exE:ρ->Ex)(outE:ρ->St)(stp:St)(st:St):LCon:=
 lcy (vF m ns js st (D 0 s0)/\B/\okI step p n 0 s0) (aq step n 0 s0) exE outE (D n) stp
def UT (m:Nat)(ns:List NLoc)(js:List Nat)(D:Nat->σ->St)(step:Nat->σ->ρ⊕σ)(p:Nat->σ->Prop)(n:Nat)(s0:σ)(exE:ρ->Ex)(outE:ρ->St)(stp:St)(st:St):LCon:=
 lcy (vF m ns js st (D 0 s0)/\okI step p n 0 s0/\∀ s,aq step n 0 s0≠ .inr s) (aq step n 0 s0) exE outE (D n) stp
variable {m:Nat}{ns:List NLoc}{js:List Nat}{step:Nat->σ->ρ⊕σ}{p:Nat->σ->Prop}{n:Nat}{s0:σ}{B:Prop}{exE:ρ->Ex}{outE:ρ->St}{stp st:St}{Q:Ex->St->Prop}{D:Nat->σ->St}
theorem Ei {pre:Prop}{run:ρ⊕σ}{outN:σ->St}:sQ Q (some (lcy pre run exE outE outN stp))=(pre/\(∀ x,run=.inl x->Q (exE x) (outE x))/\(∀ s,run=.inr s->Q .normal (outN s))/\Q .ret stp):=by
 apply propext;constructor
 ·rintro⟨h1,h2⟩;exact⟨h1,fun x hx=>h2 (some (.inl x)) hx.symm,fun s hs=>h2 (some (.inr s)) hs.symm,h2 none trivial⟩
 ·rintro⟨h1,h2,h3,h4⟩;refine⟨h1,fun r hr=>?_⟩;match r,hr with
  |none,_=>exact h4
  |some (.inl x),hr=>exact h2 x hr.symm
  |some (.inr s),hr=>exact h3 s hr.symm
@[go_sem] theorem Xn:sQ Q (some (LCY m ns js D step p n s0 B exE outE stp st))=((vF m ns js st (D 0 s0)/\B/\okI step p n 0 s0)/\(∀ x,aq step n 0 s0=.inl x->Q (exE x) (outE x))/\(∀ s,aq step n 0 s0=.inr s->Q .normal (D n s))/\Q .ret stp):=Ei
@[go_sem] theorem UU:sQ Q (some (UT m ns js D step p n s0 exE outE stp st))=((vF m ns js st (D 0 s0)/\okI step p n 0 s0/\∀ s,aq step n 0 s0≠ .inr s)/\(∀ x,aq step n 0 s0=.inl x->Q (exE x) (outE x))/\Q .ret stp):=by
 refine Ei.trans ?_;apply propext;constructor
 ·rintro⟨h1,h2,_,h4⟩;exact⟨h1,h2,h4⟩
 ·rintro⟨h1,h2,h4⟩;exact⟨h1,h2,fun s hs=>absurd hs (h1.2.2 s),h4⟩
def cY (step:Nat->σ->ρ⊕σ)(exE:ρ->Ex)(outE:ρ->St)(D:Nat->σ->St)(stp:St)(m id k:Nat)(s:σ):Ex->St->Prop
 | .normal,st=>uM D m k st (step k s)
 | .exit j,st=>od exE outE m (bif Nat.beq j id then .normal else .exit j) st (step k s)
 | .ret,st=>od exE outE m .ret st (step k s)\/jq stp m st
 | .pan x,st=>od exE outE m (.pan x) st (step k s)
variable {id k j:Nat}{s:σ}{x:Value}{e e':Ex}
@[go_sem] theorem Xo:cY step exE outE D stp m id k s .normal st=uM D m k st (step k s):=(rfl)
@[go_sem] theorem abu:cY step exE outE D stp m id k s (.exit j) st=od exE outE m (bif Nat.beq j id then .normal else .exit j) st (step k s):=(rfl)
@[go_sem] theorem acz:cY step exE outE D stp m id k s .ret st=(od exE outE m .ret st (step k s)\/jq stp m st):=(rfl)
@[go_sem] theorem acA:cY step exE outE D stp m id k s (.pan x) st=od exE outE m (.pan x) st (step k s):=(rfl)
@[congr] theorem Zq {st':St}(h:st=st')(he:e=e'):cY step exE outE D stp m id k s e st=cY step exE outE D stp m id k s e' st':=by rw[h,he]
end
section
variable {P:Program}{ρ σ:Type}{ts:Tis}{G:Cons}{ro:Option Nat}{N:Nat}{id:Nat}{c:Code}{C:St->Option LCon}{m:Nat}{ns:List NLoc}{js:List Nat}{step:Nat->σ->ρ⊕σ}{p:Nat->σ->Prop}{n:Nat}{s0:σ}{exE:ρ->Ex}{outE:ρ->St}{D:Nat->σ->St}{stp:St}
theorem Ox {n0:Nat}(hn0:n0=m){s:σ}{k:Nat}(hlt:k<n){I:Nat×σ->Prop}{μ:Nat×σ->Nat}{outN:σ->St}{pre:Prop}{run:ρ⊕σ}
  (hI:∀ s',step k s=.inr s'->I (k+1,s')/\μ (k+1,s') <μ (k,s)) (hx:∀ x,step k s=.inl x->run=.inl x):
  ∀ e st',cY step exE outE D stp m id k s e st'->sR (fun x:Nat×σ=>D x.1 x.2) I μ n0 (k,s) id (fun e st'=>∃ r js,(lcy pre run exE outE outN stp).post r/\(lcy pre run exE outE outN stp).ex r=e/\n0<=((lcy pre run exE outE outN stp).out r).h.length/\Sub js n0 st' ((lcy pre run exE outE outN stp).out r)) e st':=by
 subst hn0;have hfin:∀ e st',od exE outE n0 e st' (step k s)->∃ r js,(lcy pre run exE outE outN stp).post r/\(lcy pre run exE outE outN stp).ex r=e/\n0<=((lcy pre run exE outE outN stp).out r).h.length/\Sub js n0 st' ((lcy pre run exE outE outN stp).out r):=by
  intro e st' q;cases hs:step k s with
  |inr s'=>rw[hs]at q;exact q.elim
  |inl x=>
   rw[hs]at q;obtain⟨q2,js,q3,q4⟩:=q;exact⟨some (.inl x),js,(hx x hs).symm,q2,q3,q4⟩
 intro e st' hq;cases e with
 |normal=>
  change uM D n0 k st' (step k s)at hq;cases hs:step k s with
  |inl x=>rw[hs]at hq;exact hq.elim
  |inr s'=>
   rw[hs]at hq;obtain⟨js,q3,q4⟩:=hq;obtain⟨i1,i2⟩:=hI s' hs;exact⟨(k+1,s'),js,i1,i2,q3,q4⟩
 |exit j=>
  change od exE outE n0 (bif Nat.beq j id then .normal else .exit j) st' (step k s)at hq;show bif Nat.beq j id then _ else _;cases hb:Nat.beq j id with
  |true=>rw[hb]at hq;exact hfin _ _ hq
  |false=>rw[hb]at hq;exact hfin _ _ hq
 |ret=>
  rcases hq with hq|hq
  ·exact hfin _ _ hq
  ·obtain⟨js,q3,q4⟩:=hq;exact⟨none,js,trivial,rfl,q3,q4⟩
 |pan x=>exact hfin _ _ hq
theorem Oy {B:Prop}(hm:P.follows .mixedOrders=true)(hts:ts.ok P)(hG:ConsOk P G)(hc:bQ N c=true)(hC:∀ st,C st=some (LCY m ns js D step p n s0 B exE outE stp st))(M:Int)(hn:n=M.toNat)(hB:B->M<9223372036854775808)
  (h:B->∀ k s,k<n->p k s->i64.wrap ((k:Int)+1)=((k+1:Nat):Int)->decide ((k:Int) <M)=true->∃ L,ak P ro N L c/\exec ts G L c (D k s) (cY step exE outE D stp m id k s))
  (h2:B->∀ s,decide ((n:Int) <M)=false->exec ts G L0 c (D n s) (cZ (D n s) m id)):kc P ro N id (.loop c) C:=by
 refine wJ hm hts hG hc fun st lc hC' hp=>?_;rw[hC st]at hC';cases hC';obtain⟨⟨hlen,hok,hle,hsub⟩,hB',h1⟩:=hp;refine⟨Nat×σ,fun x=>D x.1 x.2,fun x=>x.1<=n/\okI step p (n - x.1) x.1 x.2/\aq step (n - x.1) x.1 x.2=aq step n 0 s0,fun x=>n - x.1,(0,s0),mkN ns st,js,⟨Nat.zero_le _,by simpa using h1,by simp⟩,wK ns st st (.refl _) hok,by rw[hlen];exact hle,by rw[hlen];exact hsub,?_⟩;rintro⟨k,s⟩ ⟨hk,hJ,hrun⟩;simp only at hk hJ hrun;rcases Nat.lt_or_ge k n with hlt|hge
 ·rw[show n - k=(n - k - 1)+1 by omega]at hrun hJ;obtain⟨L,hl,hex⟩:=h hB' k s hlt hJ.1 (J7 (hn▸hlt) (hB hB')) (decide_eq_true (by omega));have hI:∀ s',step k s=.inr s'->okI step p (n - (k+1)) (k+1) s'/\aq step (n - (k+1)) (k+1) s'=aq step n 0 s0:=fun s' hs=>by
   have:=hJ.2 s' hs;rw[show n - k - 1=n - (k+1) by omega]at this hrun;simp only[aq,hs]at hrun;exact⟨this,hrun⟩
  have hx:∀ x,step k s=.inl x->aq step n 0 s0=.inl x:=fun x hs=>by
   simp only[aq,hs]at hrun;exact hrun.symm
  exact⟨L,_,hl,fun e st' q=>Ox hlen hlt (fun s' hs=>⟨⟨hlt,hI s' hs⟩,by simp only;omega⟩) hx e st' q,hex⟩
 ·have hkn:k=n:=by omega
  subst hkn;have hex:=h2 hB' s (by rw[decide_eq_false_iff_not];omega);refine⟨L0,_,ag c,fun e st' hq=>?_,hex⟩;simp only[Nat.sub_self,aq]at hrun;cases e with
  |exit j=>
   change bif Nat.beq j id then jq (D k s) m st' else False at hq;show bif Nat.beq j id then _ else _;cases hb:Nat.beq j id with
   |true=>
    rw[hb]at hq;obtain⟨js,q3,q4⟩:=hq;exact⟨some (.inr s),js,hrun,rfl,by rw[hlen];exact q3,by rw[hlen];exact q4⟩
   |false=>rw[hb]at hq;exact hq.elim
  |_=>exact hq.elim
theorem Mb (hm:P.follows .mixedOrders=true)(hts:ts.ok P)(hG:ConsOk P G)(hc:bQ N c=true)(hC:∀ st,C st=some (UT m ns js D step p n s0 exE outE stp st))
  (h:∀ k s,p k s->∃ L,ak P ro N L c/\exec ts G L c (D k s) (cY step exE outE D stp m id k s)):kc P ro N id (.loop c) C:=by
 refine wJ hm hts hG hc fun st lc hC' hp=>?_;rw[hC st]at hC';cases hC';obtain⟨⟨hlen,hok,hle,hsub⟩,h1,hno⟩:=hp;refine⟨Nat×σ,fun x=>D x.1 x.2,fun x=>x.1<=n/\okI step p (n - x.1) x.1 x.2/\aq step (n - x.1) x.1 x.2=aq step n 0 s0,fun x=>n - x.1,(0,s0),mkN ns st,js,⟨Nat.zero_le _,by simpa using h1,by simp⟩,wK ns st st (.refl _) hok,by rw[hlen];exact hle,by rw[hlen];exact hsub,?_⟩;rintro⟨k,s⟩ ⟨hk,hJ,hrun⟩;simp only at hk hJ hrun;rcases Nat.lt_or_ge k n with hlt|hge
 ·rw[show n - k=(n - k - 1)+1 by omega]at hrun hJ;obtain⟨L,hl,hex⟩:=h k s hJ.1;have hI:∀ s',step k s=.inr s'->okI step p (n - (k+1)) (k+1) s'/\aq step (n - (k+1)) (k+1) s'=aq step n 0 s0:=fun s' hs=>by
   have:=hJ.2 s' hs;rw[show n - k - 1=n - (k+1) by omega]at this hrun;simp only[aq,hs]at hrun;exact⟨this,hrun⟩
  have hx:∀ x,step k s=.inl x->aq step n 0 s0=.inl x:=fun x hs=>by
   simp only[aq,hs]at hrun;exact hrun.symm
  exact⟨L,_,hl,fun e st' q=>Ox hlen hlt (fun s' hs=>⟨⟨hlt,hI s' hs⟩,by simp only;omega⟩) hx e st' q,hex⟩
 ·have hkn:k=n:=by omega
  subst hkn;simp only[Nat.sub_self,aq]at hrun;exact absurd hrun.symm (hno s)
end
def rB (n:Nat):List Ob:=List.replicate n .dead
def Oz (items:List (List SV))(r:RF)(n:Nat):Ex->St->Prop
 | .normal,st=>jq ⟨[],.ab (r.1 0)::rB n⟩ (n+1) ⟨[],st.h⟩\/jq ⟨[],.ab (r.1 (items.length+1))::rB n⟩ (n+1) ⟨[],st.h⟩
 | .ret,st=>jq ⟨[],.ab (r.1 0)::rB n⟩ (n+1) ⟨[],st.h⟩\/jq ⟨[],.ab (r.1 (items.length+1))::rB n⟩ (n+1) ⟨[],st.h⟩
 |_,_=>False
section
variable {items:List (List SV)}{r:RF}{n:Nat}{st:St}{e e':Ex}
@[go_sem] theorem RB:Oz items r n .normal st=(jq ⟨[],.ab (r.1 0)::rB n⟩ (n+1) ⟨[],st.h⟩\/jq ⟨[],.ab (r.1 (items.length+1))::rB n⟩ (n+1) ⟨[],st.h⟩):=(rfl)
@[go_sem] theorem Xp:Oz items r n .ret st=(jq ⟨[],.ab (r.1 0)::rB n⟩ (n+1) ⟨[],st.h⟩\/jq ⟨[],.ab (r.1 (items.length+1))::rB n⟩ (n+1) ⟨[],st.h⟩):=(rfl)
@[go_sem] theorem abv:rB 0=[]:=(rfl)
@[go_sem] theorem abw:rB 1=[.dead]:=(rfl)
@[go_sem] theorem abx:rB 2=[.dead,.dead]:=(rfl)
@[go_sem] theorem aby:rB 3=[.dead,.dead,.dead]:=(rfl)
@[go_sem] theorem abz:rB 4=[.dead,.dead,.dead,.dead]:=(rfl)
end
theorem Ho {js:List Nat}{n0:Nat}{h h':List Ob}(q:Sub js n0 ⟨[],h⟩ ⟨[],h'⟩):Sub js n0 ⟨[(0,.tup [])],h⟩ ⟨[(0,.tup [])],h'⟩:=by
 refine⟨q.1,?_,q.2.2⟩;simp only[Ll,lk];exact⟨⟨rfl,rfl⟩,trivial⟩
open Classical in
theorem OA {P:Program} {ts:Tis} {G:RF->Cons} (hm:P.follows .mixedOrders=true) (hts:ts.ok P) {f:FuncId} {fn:Func} {c:Code} (hf:P.funcs[f]? =some fn) (hb:fn.body=some c) (hname:(fn.name== "runtime.NumGoroutine")=false) (hc:bQ fn.ntmps c=true) (hr:fn.results.toList=[])
  {items:List (List SV)} {mk:SV->List SV} {hs:List Ob} {n:Nat} (hn:hs.length=n)
  (h:∀ r:RF,YOk P (Ma items r)->ConsOk P (G r)/\(mk (.os 0)).length<=fn.ntmps/\∃ L,ak P none fn.ntmps L c/\exec ts (G r) L c ⟨mC 0 (mk (.os 0)),.ab (r.1 1)::hs⟩ (Oz items r n))
  (he:∀ (args:Array Value) (w:World),(callFunc f args).run P w=.ok (.enter f args) w):GY P f mk hs items:=by
 refine SG (fun r0 hr0 hy=>?_) he;obtain⟨hG,h1,L,h2,h3⟩:=h ⟨r0,hr0⟩ hy;refine⟨fun l o=>if l=mk (.os 0)/\o=.ab (r0 1)::hs then some { α:=Bool,pre:=True,post:=fun _=>True,res:=fun b=>.ret (.tup []) (.ab (r0 (if b then items.length+1 else 0))::rB n)}else none,?_,_,if_pos ⟨rfl,rfl⟩,trivial,fun b _=>⟨_,_,_,rfl,by cases b <;>simp⟩⟩;refine Cj hm hts hG hf hb hname hc fun l o con hC _=>?_;split at hC
 rotate_left
 ·cases hC
 rename_i hlo;obtain⟨rfl,rfl⟩:=hlo;cases hC;refine⟨h1,L,_,h2,fun e st hq=>?_,h3⟩;have key:∀ st:St,(jq ⟨[],.ab (r0 0)::rB n⟩ (n+1) ⟨[],st.h⟩\/jq ⟨[],.ab (r0 (items.length+1))::rB n⟩ (n+1) ⟨[],st.h⟩)->yM (Ob.ab (r0 1)::hs).length { α:=Bool,pre:=True,post:=fun _=>True,res:=fun b=>.ret (.tup []) (.ab (r0 (if b then items.length+1 else 0))::rB n)} (lz (j8 ts st fn.results.toList)) st.h:=fun st q=>by
  rw[hr];show ∃ r s' h' js,_;rcases q with⟨js,q1,q2⟩ | ⟨js,q1,q2⟩
  ·exact⟨false,_,_,js,trivial,rfl,by rw[List.length_cons,hn];exact q1,by rw[List.length_cons,hn];exact Ho q2⟩
  ·exact⟨true,_,_,js,trivial,rfl,by rw[List.length_cons,hn];exact q1,by rw[List.length_cons,hn];exact Ho q2⟩
 cases e with
 |normal=>exact key st hq
 |ret=>exact key st hq
 |exit j=>exact hq.elim
 |pan x=>exact hq.elim
section
variable {ρ σ τ:Type}
variable {m:Nat}{ns:List NLoc}{js:List Nat}{step:τ->σ->ρ⊕σ}{p:τ->σ->Prop}{l:List τ}{s0:σ}{exE:ρ->Ex}{outE:ρ->St}{outN:σ->St}{st:St}{Q:Ex->St->Prop}{D:List Nat->Option Nat->σ->St}
variable {P:Program}{ts:Tis}{G:Cons}{ro:Option Nat}{N id:Nat}{c:Code}{C:St->Option LCon}
end
theorem fkY {st2 st:St}{n0:Nat}{js:List Nat}(_:JL js)(h1:n0<=st2.h.length:=by(first|(show _<=_;decide) |(simp only[*,go_sem,Nat.reduceBEq,Nat.reduceLeDiff,Nat.reduceAdd,Nat.reduceSub,Nat.reduceMul,Int.reduceLE,Int.reduceLT,Int.reduceToNat,Int.reduceNeg,reduceCtorEq];done) |(simp only[*,go_sem,Nat.reduceBEq,Nat.reduceLeDiff,Nat.reduceAdd,Nat.reduceSub,Nat.reduceMul,Int.reduceLE,Int.reduceLT,Int.reduceToNat,Int.reduceNeg,reduceCtorEq];(repeat' (first|with_reducible refine And.intro ?_ ?_|((with_reducible show _≠_);first|assumption|omega|(simp_all [dQ,eX];done) |grind) |with_reducible intro _)) <;>(first|rfl|decide|assumption|omega|(simp_all [dQ,eX];done) |fail))))(h2:Sub js n0 st st2:=by(first|(show _<=_;decide) |(simp only[*,go_sem,Nat.reduceBEq,Nat.reduceLeDiff,Nat.reduceAdd,Nat.reduceSub,Nat.reduceMul,Int.reduceLE,Int.reduceLT,Int.reduceToNat,Int.reduceNeg,reduceCtorEq];done) |(simp only[*,go_sem,Nat.reduceBEq,Nat.reduceLeDiff,Nat.reduceAdd,Nat.reduceSub,Nat.reduceMul,Int.reduceLE,Int.reduceLT,Int.reduceToNat,Int.reduceNeg,reduceCtorEq];(repeat' (first|with_reducible refine And.intro ?_ ?_|((with_reducible show _≠_);first|assumption|omega|(simp_all [dQ,eX];done) |grind) |with_reducible intro _)) <;>(first|rfl|decide|assumption|omega|(simp_all [dQ,eX];done) |fail)))):jq st2 n0 st:=Fe js h1 h2
end Go.Sx
end
section
namespace Go.Sx
@[go_sem ↓] theorem Xq (x:Reach):mkE .reach [.v (.string x.name),.v (.int .i64 x.up),.v (.int .i64 x.delay),.v (.int .i64 x.cap),.v (.int .i64 x.bank),.v (.int .i64 x.siphon),.v (.int .i64 x.evap.lo),.v (.int .i64 x.evap.hi),.v (.int .i64 x.seep.1.n),.v (.int .i64 x.seep.1.d),.v (.int .i64 x.seep.2.n),.v (.int .i64 x.seep.2.d)]=x:=(rfl)
@[go_sem ↓] theorem Xr (x:Claim):mkE .claim [.v (.int .i64 x.right),.v (.int .i64 x.farm),.v (.int .i64 x.hour),.v (.int .i64 x.litres),.v (.int .i64 x.rank)]=x:=(rfl)
@[go_sem ↓] theorem Xs (x:Order):mkE .order [.v (.int .i64 x.hour),.v (.int .i64 x.index),.v (.int .i64 x.litres),.v (.bool x.outlet)]=x:=(rfl)
@[go_sem ↓] theorem Zr (x:Tank):mkE .tank [.v (.int .i64 x.cap),.v (.int .i64 x.start)]=x:=(rfl)
@[go_sem ↓] theorem Pw (x:Judgement):mkE .judgement [.v (.int .i64 x.no),.v (.int .i64 x.hour),.v (.int .i64 x.kind),.v (.int .i64 x.farm),.v (.int .i64 x.other),.v (.int .i64 x.since),.v (.int .i64 x.to),.v (.int .i64 x.n),.v (.int .i64 x.of_)]=x:=(rfl)
@[go_sem ↓] theorem Zs (x:Case):mkE .case [.v (.int .i64 x.no),.v (.int .i64 x.hour),.v (.int .i64 x.winner),.rs .int x.facts,.rs .int x.reason]=x:=(rfl)
@[go_sem ↓] theorem UV (x:Clause):mkE .clause [.v (.int .i64 x.no),.v (.int .i64 x.then_),.v (.int .i64 x.rank),.v (.bool x.strict),.rs .int x.if_]=x:=(rfl)
@[go_sem ↓] theorem UW (x:Reason):mkE .reason [.v (.int .i64 x.literal),.v (.int .i64 x.clause),.v (.bool x.proved)]=x:=(rfl)
@[go_sem ↓] theorem Zt (x:Farm):mkE .farm [.v (.string x.name),.v (.int .i64 x.reach),.v (.int .i64 x.area),.v (.int .i64 x.crop)]=x:=(rfl)
@[go_sem ↓] theorem Xt (x:Right):mkE .right [.v (.string x.name),.v (.int .i64 x.kind),.v (.int .i64 x.farm),.v (.int .i64 x.reach),.v (.int .i64 x.rank),.v (.int .i64 x.litres),.v (.int .i64 x.since),.v (.int .i64 x.to),.v (.int .i64 x.every),.v (.int .i64 x.length)]=x:=(rfl)
theorem Hq {p:Pk}{f:FuncId}{a b:List SV}:uk [p] (.fn f a b)=zF p (.fn f a b):=(rfl)
theorem Hr {f:FuncId}{a b:List SV}:zF .o (.fn f a b)=.fn f a b:=(rfl)
end Go.Sx
end
section
namespace Go.Sx
open Go.Proofs
open IntKind (i64 u64)
theorem CQ {l0:List Nat}(a0:JL l0){p:Prop}(h:JL l0->p:=by intro ja;(first|done|(repeat' (first|with_reducible refine And.intro ?_ ?_|((with_reducible show _≠_);first|assumption|omega|(simp_all [dQ,eX];done) |grind) |with_reducible intro _)) <;>(first|done|with_reducible exact Empty.elim ‹Empty› |with_reducible assumption|rfl|omega|assumption|decide|exact fk ja|(refine Or.inr ?_;exact fkY ja) |(refine Or.inl ?_;exact fkY ja) |(refine Or.inl ⟨rfl,?_⟩;exact fkY ja) |exact czl|(simp only[*,cond_true,cond_false,Bool.not_true,Bool.not_false,go_sem,Nat.reduceBEq,Nat.reduceLeDiff,Nat.reduceLT,decide_true,Nat.reduceAdd,Nat.reduceSub,Nat.reduceMul,Int.reduceLE,Int.reduceLT,Int.reduceToNat,Int.reduceNeg,reduceCtorEq];(repeat' (first|with_reducible refine And.intro ?_ ?_|((with_reducible show _≠_);first|assumption|omega|(simp_all [dQ,eX];done) |grind) |with_reducible intro _)) <;>(first|done|assumption|rfl|omega|decide|exact fk ja|(refine Or.inr ?_;exact fkY ja) |(refine Or.inl ?_;exact fkY ja) |(refine Or.inl ⟨rfl,?_⟩;exact fkY ja) |(simp_all [dQ,eX];done))) |(exfalso;rename_i h1 h2;rw[h1]at h2;cases h2) |(exfalso;rename_i h1 h2;simp only[h1,Bool.not_false,Bool.not_true,Bool.true_or,Bool.or_true,Bool.false_or,Bool.or_false,reduceCtorEq]at h2;done) |(exfalso;clear hy hG;simp_all;done) |(simp only[*,Sum.inr.injEq,forall_eq',true_implies,forall_const,reduceCtorEq,false_implies,and_true,List.length_append,List.length_cons,List.length_nil,Nat.zero_add,go_sem,Nat.reduceBEq,Nat.reduceLeDiff,Nat.reduceLT,decide_true,Nat.reduceAdd,Nat.reduceSub,Nat.reduceMul,Int.reduceLE,Int.reduceLT,Int.reduceToNat,Int.reduceNeg,reduceCtorEq]at hq2;first|exact hq2.1|exact hq2.2.1|exact hq2|exact hq2.2|(simp only[hq2];done)) |(simp only[*,Sum.inr.injEq,forall_eq',true_implies,forall_const,reduceCtorEq,false_implies,and_true,List.length_append,List.length_cons,List.length_nil,Nat.zero_add,go_sem,Nat.reduceBEq,Nat.reduceLeDiff,Nat.reduceLT,decide_true,Nat.reduceAdd,Nat.reduceSub,Nat.reduceMul,Int.reduceLE,Int.reduceLT,Int.reduceToNat,Int.reduceNeg,reduceCtorEq]at hq1;first|exact hq1.1|exact hq1.2.1|exact hq1|exact hq1.2|(simp only[hq1];done)) |(clear hy hG;simp_all only[dQ,eX,Sum.inr.injEq,forall_eq',true_implies,forall_const,reduceCtorEq,false_implies,and_true,List.length_append,List.length_cons,List.length_nil,Nat.zero_add,go_sem,Nat.reduceBEq,Nat.reduceLeDiff,Nat.reduceLT,decide_true,Nat.reduceAdd,Nat.reduceSub,Nat.reduceMul,Int.reduceLE,Int.reduceLT,Int.reduceToNat,Int.reduceNeg,reduceCtorEq];done) |(simp_all [okI,dQ,eX];done) |(simp_all [dQ,eX];(first|done|exact fk2 ja)) |exact fk2 ja))):p:=h a0
theorem OB {l0:List Nat}(a0:JL l0){p:Prop}(h:JL l0->p:=by intro ja;simp only[go_sem,Nat.reduceBEq,Nat.reduceLeDiff,Nat.reduceLT,decide_true,Nat.reduceAdd,Nat.reduceSub,Nat.reduceMul,Int.reduceLE,Int.reduceLT,Int.reduceToNat,Int.reduceNeg,reduceCtorEq,hc,hw];all_goals exact CQ ja):p:=h a0
theorem OC {l0:List Nat}(a0:JL l0){p:Prop}(h:JL l0->p:=by intro ja;simp only[go_sem,Nat.reduceBEq,Nat.reduceLeDiff,Nat.reduceLT,decide_true,Nat.reduceAdd,Nat.reduceSub,Nat.reduceMul,Int.reduceLE,Int.reduceLT,Int.reduceToNat,Int.reduceNeg,reduceCtorEq,hc];all_goals exact CQ ja):p:=h a0
@[go_sem] def rY (x:Judgement):List SV:=[.agg (cellsOf .judgement x)]
@[go_sem] def sn:List SV->Option Con:=(pR .judgement fun j=>(pI fun hour=>(pE (.det True (.fn 91 [] [.ep [.rs .judgement j] 0,.ep [.v (.int .i64 hour)] 0])))))
theorem wZ:FnOk Tryz.prog 46 sn:=by
 have hG:ConsOk Tryz.prog (mkG [] []):=am cg0 cg0;refine av [.o] mixed ai hG (fn:=Tryz.f46) (c:=aa Tryz.f46) kr kr kr kr (a_ fun j=>(br fun hour=>(ah (fun hp=>?_))));refine⟨nbl rfl,L0,ag _,?_⟩;unfold aa Tryz.f46;simp only[go_sem,Hq,Hr,Nat.reduceBEq,Nat.reduceLeDiff,Nat.reduceAdd,Nat.reduceSub,Nat.reduceMul]
@[go_sem] def dS (j:List Judgement)(hour:Int)(k_0:Nat)(s_0:List Judgement):Empty⊕(List Judgement):=letI q0:=j.getD k_0 default;(bif((((q0.of_==0)&&(decide (q0.hour<=hour)))&&(aI hour (q0.since) (q0.to)))&&(!(gm j q0 hour)))then .inr (s_0++[q0])else .inr s_0)
def fe (j:List Judgement)(hour:Int)(items_:List (List SV))(k_0:Nat)(s_0:List Judgement):Prop:=letI q1:=j.getD k_0 default;letI q0:=(((q1.of_==0)&&(decide (q1.hour<=hour)))&&(aI hour (q1.since) (q1.to)))&&(!(gm j q1 hour));((q0=true->(items_[s_0.length]? =some (rY q1)))/\(q0=false->(q0=false)))
def bE (j:List Judgement)(hour:Int):List Judgement:=(match aq (dS j hour) j.length 0 ([]:List Judgement)with| .inl x=>x.elim| .inr s_0=>s_0)
def d8 (j:List Judgement)(hour:Int)(items_:List (List SV)):Prop:=letI q0:=dS j hour;(j.length<=aA->(okI q0 (fe j hour items_) j.length 0 ([]:List Judgement)/\(∀ s_0,aq q0 j.length 0 ([]:List Judgement)=.inr s_0->(items_.length=s_0.length))))
theorem UX {l0:List Nat}(a0:JL l0){p:Prop}(h:JL l0->p:=by intro ja;simp only[go_sem,Nat.reduceBEq,Nat.reduceLeDiff,Nat.reduceLT,decide_true,Nat.reduceAdd,Nat.reduceSub,Nat.reduceMul,Int.reduceLE,Int.reduceLT,Int.reduceToNat,Int.reduceNeg,reduceCtorEq];all_goals exact CQ ja):p:=h a0
theorem vL (j:List Judgement)(hour:Int)(items_:List (List SV))(hp:d8 j hour items_):GY Tryz.prog 91 (fun y=>[y,.ep [.rs .judgement j] 0,.ep [.v (.int .i64 hour)] 0]) [] items_:=by
 unfold d8 at hp;refine OA mixed ai (fn:=Tryz.f91) (c:=aa Tryz.f91) kr kr kr kr rfl (n:=0) rfl (G:=fun r_=>Fc [(52,gc),(53,fun l=>mh (aP [.sl .judgement,.st .judgement,.o] l))] [] (Ma items_ r_)) (fun r_ hy=>?_) (fun args w=>by kernel_rfl);have hG:ConsOk Tryz.prog (Fc [(52,gc),(53,fun l=>mh (aP [.sl .judgement,.st .judgement,.o] l))] [] (Ma items_ r_)):=Fd (cgc h_ (cgc (s7.norm [.sl .judgement,.st .judgement,.o]) cg0)) cg0 hy;refine⟨hG,nbl rfl,(fun id st=>bif Nat.beq id 0 then some (LCY (ρ:=Empty) (σ:=(List Judgement)) 1 [] [0] (fun k_0 s_0=>⟨[(0,.os 0),(1,.ep [.rs .judgement j] 0),(2,.ep [.v (.int .i64 hour)] 0),(6,.rs .judgement j),(7,.v (.int .i64 (j.length:Int))),(8,.v (.int .i64 (k_0:Int)))],[.ab (r_.1 (s_0.length+1))]⟩) (dS j hour) (fe j hour items_) j.length ([]:List Judgement) (j.length<=aA) ((·.elim)) ((·.elim)) ⟨[],[.ab (r_.1 0)]⟩ st)else none),?_,?_⟩
 ·unfold aa Tryz.f91;simp only[ak,true_and,and_true]
  ·refine Oy mixed ai hG kr (fun _=>rfl) (j.length:Int) rfl dV (fun hb0 k_0 s_0 hlt0 hq0 hw hc=>⟨L0,ag _,?_⟩) (fun hb0 s_0 hc=>?_)
   ·unfold fe at hq0;try simp only[hw,Int.toNat_natCast]at hq0
    exact OB (jl [0])
   ·exact OC (jl [0])
 ·unfold aa Tryz.f91;exact UX (jl [0])
theorem zf {l0 l1:List Nat}(a0:JL l0)(a1:JL l1){p:Prop}(h:JL l0->JL l1->p:=by intro ja jb;simp only[go_sem,Nat.reduceBEq,Nat.reduceLeDiff,Nat.reduceLT,decide_true,Nat.reduceAdd,Nat.reduceSub,Nat.reduceMul,Int.reduceLE,Int.reduceLT,Int.reduceToNat,Int.reduceNeg,reduceCtorEq];all_goals exact sX ja jb):p:=h a0 a1
@[go_sem] def rC:List SV->Option Con:=pR .claim fun l=>pE (.det (l.length*40<=ez) (.nw .claim l))
theorem wd:FnOk Tryz.prog 45 rC:=by
 have hG:ConsOk Tryz.prog (mkG [] []):=am cg0 cg0;refine CK [(.tmp 2,.claim)] mixed ai hG (fn:=Tryz.f45) (c:=aa Tryz.f45) kr kr kr kr (a_ fun l=>ah fun hp=>?_);dsimp only[an]at hp;refine⟨nbl rfl,L0,ag _,?_⟩;unfold aa Tryz.f45;simp only[go_sem,Nat.reduceBEq,Nat.reduceLeDiff,Nat.reduceAdd,Nat.reduceSub,Nat.reduceMul,Int.reduceLE,Int.reduceLT,Int.reduceToNat,Int.reduceNeg,reduceCtorEq];intro b hb;refine⟨fun h=>?_,fun _=>⟨hp,fun _=>rfl⟩⟩;have hl:=hb h;subst hl;rfl
def nZ (y:Claim)(r_:List Claim):Bool:=(y.hour !=(r_.getD 0 default).hour)
def gF (y:Claim)(r_:List Claim):Prop:=(0<=0/\0< (r_.length:Int))
@[go_sem] noncomputable def qm:List SV->Option Con:=(pD .claim fun y=>(pXR .claim fun r_=>(pE (.det (gF y r_) (.v (.bool (nZ y r_)))))))
theorem vM:FnOk Tryz.prog 44 qm:=by
 have hG:ConsOk Tryz.prog (mkG [] []):=am cg0 cg0;refine av [.o] mixed ai hG (fn:=Tryz.f44) (c:=aa Tryz.f44) kr kr kr kr (aF fun y=>(Bf fun r_=>(ah (fun hp=>?_))));dsimp only[an]at hp;unfold gF at hp;refine⟨nbl rfl,L0,ag _,?_⟩
 ·unfold aa Tryz.f44;try unfold nZ
  exact zq1
def n8 (y:Claim):Bool:=(decide (y.litres > 1073741824))
@[go_sem] def qn:List SV->Option Con:=(pD .claim fun y=>(pE (.det True (.v (.bool (n8 y))))))
theorem vN:FnOk Tryz.prog 49 qn:=by
 have hG:ConsOk Tryz.prog (mkG [] []):=am cg0 cg0;refine av [.o] mixed ai hG (fn:=Tryz.f49) (c:=aa Tryz.f49) kr kr kr kr (aF fun y=>(ah (fun hp=>?_)));dsimp only[an]at hp;refine⟨nbl rfl,L0,ag _,?_⟩
 ·unfold aa Tryz.f49;try unfold n8
  exact zq1
@[go_sem] def dX (s_:List Claim)(r_:List Claim)(k_0:Nat)(s_0:Unit):Int⊕Unit:=(bif(nZ (s_.getD k_0 default) r_)then .inl (k_0:Int)else .inr ())
def bA (s_:List Claim)(r_:List Claim)(k_0:Nat)(s_0:Unit):Prop:=(gF (s_.getD k_0 default) r_)
def aj (s_:List Claim)(r_:List Claim):Int:=(match aq (dX s_ r_) s_.length 0 ()with| .inl x_0_0=>x_0_0| .inr s_0=>(-1))
def bq (s_:List Claim)(r_:List Claim):Prop:=(s_.length<=aA->okI (dX s_ r_) (bA s_ r_) s_.length 0 ())
@[go_sem] noncomputable def gG:List SV->Option Con:=(pR .claim fun s_=>(pFn 44 (pXR .claim fun r_=>(pE ((pE (.det (bq s_ r_) (.v (.int .i64 (aj s_ r_))))))))))
theorem lC:FnOk Tryz.prog 43 gG:=by
 have hG:ConsOk Tryz.prog (mkG [(44,qm)] []):=am (cgc vM cg0) cg0;refine av [.o] mixed ai hG (fn:=Tryz.f43) (c:=aa Tryz.f43) kr kr kr kr (a_ fun s_=>(bH (Bf fun r_=>(ah ((ah (fun hp=>?_)))))));dsimp only[an]at hp;unfold bq at hp;refine⟨nbl rfl,(fun id st=>bif Nat.beq id 0 then some (LCR (ρ:=Int) (σ:=Unit) 0 [] [] (fun k_0 s_0=>⟨[(0,.rs .claim s_),(1,.fn 44 [] [.ep [.rs .claim r_] 0]),(7,.v (.int .i64 (s_.length:Int))),(8,.v (.int .i64 (k_0:Int)))],[]⟩) (dX s_ r_) (bA s_ r_) s_.length () (s_.length<=aA) (fun _=>.ret) (fun x_0_0=>⟨[(4,.v (.int .i64 x_0_0))],[]⟩) st)else none),?_,?_⟩
 ·unfold aa Tryz.f43;simp only[ak,true_and,and_true]
  ·refine bh mixed ai hG kr (fun _=>rfl) (s_.length:Int) rfl dV (fun hb0 k_0 s_0 hlt0 hq0 hw hc=>⟨L0,ag _,?_⟩) (fun hb0 s_0 hc=>?_)
   ·unfold bA at hq0;try simp only[hw,Int.toNat_natCast]at hq0
    exact aL (jl [])
   ·exact aK (jl [])
 ·unfold aa Tryz.f43;try unfold aj
  exact zq1
@[go_sem] def gn (s_:List Claim)(k_0:Nat)(s_0:Unit):Int⊕Unit:=(bif(n8 (s_.getD k_0 default))then .inl (k_0:Int)else .inr ())
def eE (s_:List Claim):Int:=(match aq (gn s_) s_.length 0 ()with| .inl x_0_0=>x_0_0| .inr s_0=>(-1))
@[go_sem] def gH:List SV->Option Con:=(pR .claim fun s_=>(pFn 49 (pE ((pE (.det True (.v (.int .i64 (eE s_)))))))))
theorem lD:FnOk Tryz.prog 43 gH:=by
 have hG:ConsOk Tryz.prog (mkG [(49,qn)] []):=am (cgc vN cg0) cg0;refine av [.o] mixed ai hG (fn:=Tryz.f43) (c:=aa Tryz.f43) kr kr kr kr (a_ fun s_=>(bH (ah ((ah (fun hp=>?_))))));dsimp only[an]at hp;refine⟨nbl rfl,(fun id st=>bif Nat.beq id 0 then some (LCR (ρ:=Int) (σ:=Unit) 0 [] [] (fun k_0 s_0=>⟨[(0,.rs .claim s_),(1,.fn 49 [] []),(7,.v (.int .i64 (s_.length:Int))),(8,.v (.int .i64 (k_0:Int)))],[]⟩) (gn s_) pT s_.length () (s_.length<=aA) (fun _=>.ret) (fun x_0_0=>⟨[(4,.v (.int .i64 x_0_0))],[]⟩) st)else none),?_,?_⟩
 ·unfold aa Tryz.f43;simp only[ak,true_and,and_true]
  ·refine bh mixed ai hG kr (fun _=>rfl) (s_.length:Int) rfl dV (fun hb0 k_0 s_0 hlt0 _ hw hc=>⟨L0,ag _,?_⟩) (fun hb0 s_0 hc=>?_)
   ·exact aL (jl [])
   ·exact aK (jl [])
 ·unfold aa Tryz.f43;try unfold eE
  exact zq1
@[go_sem] noncomputable def aC:List SV->Option Con:=fun l=>(orC (gG l) (gH l))
theorem gI:FnOk Tryz.prog 43 aC:=(FnOk.or lC lD)
def cq (s_:List Claim):Bool:=(decide ((eE s_)>=0))
@[go_sem] def fV:List SV->Option Con:=(pR .claim fun s_=>(pFn 49 (pE ((pE (.det True (.v (.bool (cq s_)))))))))
theorem zq71 {p:Prop}(h:p:=by simp only[go_sem,Nat.reduceBEq,Nat.reduceLeDiff,Nat.reduceLT,decide_true,Nat.reduceAdd,Nat.reduceSub,Nat.reduceMul,Int.reduceLE,Int.reduceLT,Int.reduceToNat,Int.reduceNeg,reduceCtorEq,aC];all_goals exact cl):p:=h
theorem kv:FnOk Tryz.prog 48 fV:=by
 have hG:ConsOk Tryz.prog (mkG [(43,fun l=>aC (aP [.sl .claim,.o] l))] []):=am (cgc (gI.norm [.sl .claim,.o]) cg0) cg0;refine av [.o] mixed ai hG (fn:=Tryz.f48) (c:=aa Tryz.f48) kr kr kr kr (a_ fun s_=>(bH (ah ((ah (fun hp=>?_))))));dsimp only[an]at hp;refine⟨nbl rfl,L0,ag _,?_⟩
 ·unfold aa Tryz.f48;try unfold cq
  exact zq71
@[go_sem] noncomputable def aM:List SV->Option Con:=fun l=>(fV l)
theorem kK:FnOk Tryz.prog 48 aM:=kv
@[go_sem] def cW (a2:List Judgement)(s_0:List Claim×List Claim)(z_1:Judgement)(s_1:List Claim):Empty⊕(List Claim):=letI q0:=dW (cV z_1 s_1);(bif(z_1.kind==1)then .inr q0 else(bif(z_1.kind==2)then .inr q0 else(bif(z_1.kind==3)then .inr (dW (dp z_1 s_1))else(bif(z_1.kind==4)then .inr (dW s_1)else .inr default))))
def iu (a2:List Judgement)(s_0:List Claim×List Claim)(z_1:Judgement)(s_1:List Claim):Prop:=letI q0:=(cn z_1 s_1)/\(cS (cV z_1 s_1));(((z_1.kind==1)=true->q0)/\((z_1.kind==1)=false->(((z_1.kind==2)=true->q0)/\((z_1.kind==2)=false->(((z_1.kind==3)=true->((cG z_1 s_1)/\(cS (dp z_1 s_1))))/\((z_1.kind==3)=false->(((z_1.kind==4)=true->(cS s_1))/\((z_1.kind==4)=false->False))))))))
@[go_sem] def mK (a1:List Claim)(a2:List Judgement)(k_0:Nat)(s_0:List Claim×List Claim):(List Claim)⊕(List Claim×List Claim):=letI q1:=aj s_0.1 s_0.1;letI q2:=(s_0.1.length:Int);letI q0:=Int.toNat (bif(decide (q1<0))then q2 else q1);(bif(decide (q2 > 0))then(match kf (cW a2 s_0) (bE a2 ((s_0.1.getD 0 default).hour)) ((s_0.1.take q0).drop 0)with| .inl x=>x.elim| .inr s_1=>.inr (((s_0.1.take (Int.toNat q2)).drop q0),(s_0.2++s_1)))else .inl s_0.2)
def kZ (a1:List Claim)(a2:List Judgement)(k_0:Nat)(s_0:List Claim×List Claim):Prop:=letI q1:=(s_0.1.length:Int);letI q4:=aj s_0.1 s_0.1;letI q0:=bif(decide (q4<0))then q1 else q4;letI q3:=(s_0.1.take (Int.toNat q0)).drop 0;letI q5:=(s_0.1.getD 0 default).hour;letI q2:=bE a2 q5;letI q6:=cW a2 s_0;(s_0.1.length<=aA->((decide (q1 > 0))=true->((bq s_0.1 s_0.1)/\((0<=0/\0<=q0/\q0<=q1)/\((q3.length*40<=ez)/\((0<=0/\0<q1)/\((d8 a2 q5 (q2.map rY))/\okL q6 (iu a2 s_0) q2 q3/\(∀ s_1,kf q6 q2 q3=.inr s_1->(((s_0.2++s_1).length*40<=ez)/\((s_0.2++s_1).length<=aA->(0<=q0/\q0<=q1/\q1<=q1)))))))))))
def eT (a0:District)(a1:List Claim)(a2:List Judgement):List Claim×Int:=letI q0:=fq a0 a2;letI q1:=nE a0 a1;(bif(q0 !=0)then([],q0)else(bif(q1 !=0)then([],q1)else(match aq (mK a1 a2) (a1.length+1) 0 (a1,[])with| .inl x_0_0=>(bif((decide ((x_0_0.length:Int) > 4096)) ||(cq x_0_0))then([],2)else(x_0_0,0)) | .inr s_0=>default)))
def eQ (a0:District)(a1:List Claim)(a2:List Judgement):Prop:=letI q0:=mK a1 a2;((eu a0 a2)/\(((fq a0 a2) !=0)=false->((kh a0 a1)/\(((nE a0 a1) !=0)=false->(okI q0 (kZ a1 a2) (a1.length+1) 0 (a1,[])/\(∀ z_,aq q0 (a1.length+1) 0 (a1,[])≠ .inr z_))))))
@[go_sem] def so:List SV->Option Con:=(pD .district fun a0=>(pR .claim fun a1=>(pR .judgement fun a2=>(pE (.det (eQ a0 a1 a2) (.tup [.nw .claim ((eT a0 a1 a2).1),.v (.int .i64 ((eT a0 a1 a2).2))]))))))
theorem zq72 {l0 l1 l2:List Nat}(a0:JL l0)(a1:JL l1)(a2:JL l2){p:Prop}(h:JL l0->JL l1->JL l2->p:=by intro ja jb jc;simp only[go_sem,Nat.reduceBEq,Nat.reduceLeDiff,Nat.reduceLT,decide_true,Nat.reduceAdd,Nat.reduceSub,Nat.reduceMul,Int.reduceLE,Int.reduceLT,Int.reduceToNat,Int.reduceNeg,reduceCtorEq,aC,aM,qC,cW,psT,rY,List.cons_append,List.nil_append,hk0];all_goals exact rA ja jb jc):p:=h a0 a1 a2
theorem zq73 {l0 l1 l2:List Nat}(a0:JL l0)(a1:JL l1)(a2:JL l2){p:Prop}(h:JL l0->JL l1->JL l2->p:=by intro ja jb jc;simp only[go_sem,Nat.reduceBEq,Nat.reduceLeDiff,Nat.reduceLT,decide_true,Nat.reduceAdd,Nat.reduceSub,Nat.reduceMul,Int.reduceLE,Int.reduceLT,Int.reduceToNat,Int.reduceNeg,reduceCtorEq,aC,aM,qC,cW,psT,rY,List.cons_append,List.nil_append,hk0,hk1];all_goals exact rA ja jb jc):p:=h a0 a1 a2
theorem zq74 {l0 l1 l2:List Nat}(a0:JL l0)(a1:JL l1)(a2:JL l2){p:Prop}(h:JL l0->JL l1->JL l2->p:=by intro ja jb jc;simp only[go_sem,Nat.reduceBEq,Nat.reduceLeDiff,Nat.reduceLT,decide_true,Nat.reduceAdd,Nat.reduceSub,Nat.reduceMul,Int.reduceLE,Int.reduceLT,Int.reduceToNat,Int.reduceNeg,reduceCtorEq,aC,aM,qC,cW,psT,rY,List.cons_append,List.nil_append,hk0,hk1,hk2];all_goals exact rA ja jb jc):p:=h a0 a1 a2
theorem Zu {l0 l1 l2:List Nat}(a0:JL l0)(a1:JL l1)(a2:JL l2){p:Prop}(h:JL l0->JL l1->JL l2->p:=by intro ja jb jc;simp only[go_sem,Nat.reduceBEq,Nat.reduceLeDiff,Nat.reduceLT,decide_true,Nat.reduceAdd,Nat.reduceSub,Nat.reduceMul,Int.reduceLE,Int.reduceLT,Int.reduceToNat,Int.reduceNeg,reduceCtorEq,aC,aM,qC,cW,psT,rY,List.cons_append,List.nil_append,hk0,hk1,hk2,hk3];all_goals exact rA ja jb jc):p:=h a0 a1 a2
theorem Zv {l0 l1 l2:List Nat}(a0:JL l0)(a1:JL l1)(a2:JL l2){p:Prop}(h:JL l0->JL l1->JL l2->p:=by intro ja jb jc;simp only[go_sem,Nat.reduceBEq,Nat.reduceLeDiff,Nat.reduceLT,decide_true,Nat.reduceAdd,Nat.reduceSub,Nat.reduceMul,Int.reduceLE,Int.reduceLT,Int.reduceToNat,Int.reduceNeg,reduceCtorEq,aC,aM,qC];all_goals exact rA ja jb jc):p:=h a0 a1 a2
theorem zq79 {p:Prop}(h:p:=by simp only[go_sem,Nat.reduceBEq,Nat.reduceLeDiff,Nat.reduceLT,decide_true,Nat.reduceAdd,Nat.reduceSub,Nat.reduceMul,Int.reduceLE,Int.reduceLT,Int.reduceToNat,Int.reduceNeg,reduceCtorEq,aC,aM,qC];all_goals exact cl):p:=h
theorem w5:FnOk Tryz.prog 12 so:=by
 have hG:ConsOk Tryz.prog (mkG [(16,fun l=>mj (aP [.st .district,.sl .judgement] l)),(32,fun l=>wQ (aP [.st .district,.sl .claim] l)),(42,ua),(43,fun l=>aC (aP [.sl .claim,.o] l)),(45,fun l=>rC (aP [.sl .claim] l)),(46,fun l=>sn (aP [.sl .judgement,.o] l)),(48,fun l=>aM (aP [.sl .claim,.o] l))] [(47,qB),(88,jL),(89,ko),(90,ku)]):=am (cgc (oN.norm [.st .district,.sl .judgement]) (cgc (AT.norm [.st .district,.sl .claim]) (cgc yz (cgc (gI.norm [.sl .claim,.o]) (cgc (wd.norm [.sl .claim]) (cgc (wZ.norm [.sl .judgement,.o]) (cgc (kK.norm [.sl .claim,.o]) cg0))))))) (cgc zd (cgc tG (cgc um (cgc un cg0))));refine CK [(.tmp 6,.claim)] mixed ai hG (fn:=Tryz.f12) (c:=aa Tryz.f12) kr kr kr kr (aF fun a0=>(a_ fun a1=>(a_ fun a2=>(ah (fun hp=>?_)))));dsimp only[an]at hp;unfold eQ at hp;refine⟨nbl rfl,(fun id st=>bif Nat.beq id 0 then some (LCV (ρ:=(List Claim)) (σ:=(List Claim×List Claim)) 4 [.slot 6 (.row .claim ([]))] [0,1,2,3,4] (fun k_0 s_0=>⟨[(2,.rs .judgement a2),(4,.ptr 1 0),(6,.os 4),(8,.ptr 3 0)],[.dead,.cells [.rs .claim s_0.1],.mp .int .fnc fu none,.cells [.os 2],.row .claim s_0.2]⟩) (mK a1 a2) (kZ a1 a2) (a1.length+1) (a1,[]) (fun _=>.normal) (fun x_0_0=>⟨[(6,.os 4)],[.dead,.dead,.dead,.dead,.row .claim x_0_0]⟩) st)else none),?_,?_⟩
 ·unfold aa Tryz.f12;simp only[ak,true_and,and_true]
  ·refine pj mixed ai hG kr (fun _=>rfl) fun k_0 s_0 hq0=>⟨(fun id st=>bif Nat.beq id 1000032 then some (JC (⟨[(2,.rs .judgement a2),(4,.ptr 1 0),(6,.os 4),(8,.ptr 3 0),(9,.v (.int .i64 (bif(decide ((aj s_0.1 s_0.1) <0))then(s_0.1.length:Int)else(aj s_0.1 s_0.1))))],[.dead,.cells [.rs .claim s_0.1],.mp .int .fnc fu none,.cells [.os 2],.row .claim s_0.2]⟩))else bif Nat.beq id 2 then some (LC (ρ:=Empty) (σ:=List Claim) (lk 2 st.t=.rs .judgement a2/\lk 4 st.t=.ptr 1 0/\lk 6 st.t=.os 4/\lk 8 st.t=.ptr 3 0/\lk 9 st.t=.v (.int .i64 (bif(decide ((aj s_0.1 s_0.1) <0))then(s_0.1.length:Int)else(aj s_0.1 s_0.1)))/\lk 10 st.t=.ptr 6 0/\lk 44 st.t=.fn 91 [] [.ep [.rs .judgement a2] 0,.ep [.v (.int .i64 ((s_0.1.getD 0 (default:Claim)).hour))] 0]/\st.h=[.dead,.cells [.rs .claim s_0.1],.mp .int .fnc fu none,.cells [.os 2],.row .claim s_0.2,.row .claim ((s_0.1.take (Int.toNat (bif(decide ((aj s_0.1 s_0.1) <0))then(s_0.1.length:Int)else(aj s_0.1 s_0.1)))).drop 0),.cells [.os 5]]/\d8 a2 ((s_0.1.getD 0 (default:Claim)).hour) ((bE a2 ((s_0.1.getD 0 (default:Claim)).hour)).map rY)/\okL (cW a2 s_0) (iu a2 s_0) (bE a2 ((s_0.1.getD 0 (default:Claim)).hour)) ((s_0.1.take (Int.toNat (bif(decide ((aj s_0.1 s_0.1) <0))then(s_0.1.length:Int)else(aj s_0.1 s_0.1)))).drop 0)) (kf (cW a2 s_0) (bE a2 ((s_0.1.getD 0 (default:Claim)).hour)) ((s_0.1.take (Int.toNat (bif(decide ((aj s_0.1 s_0.1) <0))then(s_0.1.length:Int)else(aj s_0.1 s_0.1)))).drop 0)) (fun x=>x.elim) (fun x=>x.elim) (fun s_1=>⟨[(2,.rs .judgement a2),(4,.ptr 1 0),(6,.os 4),(8,.ptr 3 0),(9,.v (.int .i64 (bif(decide ((aj s_0.1 s_0.1) <0))then(s_0.1.length:Int)else(aj s_0.1 s_0.1)))),(10,.ptr 6 0)],[.dead,.cells [.rs .claim s_0.1],.mp .int .fnc fu none,.cells [.os 2],.row .claim s_0.2,.dead,.cells [.os 7],.row .claim s_1]⟩))else none),?_,?_⟩
   ·simp only[ak,true_and,and_true]
    ·refine zY mixed ai hG (by decide) (by decide) kr kr fun st lc hC hp=>?_;simp only[go_sem,Nat.reduceBEq,Option.some.injEq]at hC;subst hC;obtain⟨t,h⟩:=st;dsimp only[LC]at hp;obtain⟨e1_0,e1_1,e1_2,e1_3,e1_4,e1_5,e1_6,rfl,hb1,hok1⟩:=hp;refine⟨91,[.ep [.rs .judgement a2] 0,.ep [.v (.int .i64 ((s_0.1.getD 0 (default:Claim)).hour))] 0],Judgement,_,_,(bE a2 ((s_0.1.getD 0 (default:Claim)).hour)),rY,(cW a2 s_0),(iu a2 s_0),_,((s_0.1.take (Int.toNat (bif(decide ((aj s_0.1 s_0.1) <0))then(s_0.1.length:Int)else(aj s_0.1 s_0.1)))).drop 0),_,_,_,[(2,.rs .judgement a2),(4,.ptr 1 0),(6,.os 4),(8,.ptr 3 0),(9,.v (.int .i64 (bif(decide ((aj s_0.1 s_0.1) <0))then(s_0.1.length:Int)else(aj s_0.1 s_0.1)))),(10,.ptr 6 0)],(fun s_1=>[.dead,.cells [.rs .claim s_0.1],.mp .int .fnc fu none,.cells [.os 2],.row .claim s_0.2,.dead,.cells [.os 7],.row .claim s_1]),(fun x=>x.elim),[0,1,2,3,4,5,6,5],?_,rfl,hok1,nbl rfl,?_,vL a2 ((s_0.1.getD 0 (default:Claim)).hour) _ hb1,fun z_1 s_1 hq1=>⟨rfl,L0,fun l=>?_,fun l=>?_,?_⟩,fun s_1=>?_,fun y=>?_⟩
     ·simp only[go_sem,e1_0,e1_1,e1_2,e1_3,e1_4,e1_5,e1_6]
     ·simp only[go_sem,Nat.reduceBEq,Nat.reduceLeDiff,Nat.reduceLT,decide_true,Nat.reduceAdd,Nat.reduceSub,Nat.reduceMul,Int.reduceLE,Int.reduceLT,Int.reduceToNat,Int.reduceNeg,reduceCtorEq,wI,oG,List.flatMap_cons,List.flatMap_nil,List.nil_append,List.append_nil,List.map_nil,e1_0,e1_1,e1_2,e1_3,e1_4,e1_5,e1_6];all_goals (first|done|decide|(repeat' (first|refine And.intro ?_ ?_|rfl|decide)))
     ·simp only[ak,and_self,true_and,and_true]
     ·simp only[ak,and_self,true_and,and_true]
     ·unfold iu at hq1;rcases Bool.eq_false_or_eq_true (z_1.kind==1)with hk0|hk0
      ·exact zq72 (jl [0,1,2,3,4,5,6,9]) (jl [0,1,2,3,4,5,6,10]) (jl [0,1,2,3,4,5,6,7])
      rcases Bool.eq_false_or_eq_true (z_1.kind==2)with hk1|hk1
      ·exact zq73 (jl [0,1,2,3,4,5,6,9]) (jl [0,1,2,3,4,5,6,10]) (jl [0,1,2,3,4,5,6,7])
      rcases Bool.eq_false_or_eq_true (z_1.kind==3)with hk2|hk2
      ·exact zq74 (jl [0,1,2,3,4,5,6,9]) (jl [0,1,2,3,4,5,6,10]) (jl [0,1,2,3,4,5,6,7])
      rcases Bool.eq_false_or_eq_true (z_1.kind==4)with hk3|hk3
      ·exact Zu (jl [0,1,2,3,4,5,6,9]) (jl [0,1,2,3,4,5,6,10]) (jl [0,1,2,3,4,5,6,7])
      exact Zu (jl [0,1,2,3,4,5,6,9]) (jl [0,1,2,3,4,5,6,10]) (jl [0,1,2,3,4,5,6,7])
     ·exact Zv (jl [0,1,2,3,4,5,6,9]) (jl [0,1,2,3,4,5,6,10]) (jl [0,1,2,3,4,5,6,7])
     ·exact Zv (jl [0,1,2,3,4,5,6,9]) (jl [0,1,2,3,4,5,6,10]) (jl [0,1,2,3,4,5,6,7])
   ·unfold kZ at hq0;exact zf (jl [0,1,2,3,8]) (jl [0,1,2,3,4])
 ·unfold aa Tryz.f12;try unfold eT
  exact zq79
structure FineC (d:District)(x:Claim):Prop where
 r0:0<=x.right
 r1:x.right< (d.rights.length:Int)
 f0:0<=x.farm
 f1:x.farm< (d.farms.length:Int)
 h0:0<=x.hour
 h1:x.hour<d.hours
 l0:1<=x.litres
 l1:x.litres<=1073741824
 kind:(d.rights.getD x.right.toNat default).kind=1
 rank:(d.rights.getD x.right.toNat default).rank=x.rank
theorem RD {ρ σ:Type}{step:Nat->σ->ρ⊕σ}{p:Nat->σ->Prop}(m:σ->Nat)(J:σ->Prop)(Q:ρ->Prop)(h:∀ k s,J s->p k s/\((∃ r,step k s=.inl r/\Q r)\/∃ s',step k s=.inr s'/\m s'<m s/\J s')):∀ (n i:Nat) (s:σ),J s->m s<n->okI step p n i s/\∃ r,aq step n i s=.inl r/\Q r
 |0,_,_,_,hm=>absurd hm (Nat.not_lt_zero _)
 |n+1,i,s,hJ,hm=>by
  obtain⟨h1,h2⟩:=h i s hJ;rcases h2 with⟨r,e,hq⟩ | ⟨s',e,hlt,hJ'⟩
  ·refine⟨⟨h1,fun s'' e'=>?_⟩,r,?_,hq⟩
   ·rw[e]at e';cases e'
   ·simp only[aq,e]
  ·obtain⟨q1,q2⟩:=RD m J Q h n (i+1) s' hJ' (by omega);refine⟨⟨h1,fun s'' e'=>?_⟩,?_⟩
   ·rw[e]at e';cases e';exact q1
   ·simp only[aq,e];exact q2
theorem KD {ρ σ:Type}{x:ρ⊕σ}{Q:ρ->Prop}(h:∃ r,x=.inl r/\Q r):∀ z,x≠ .inr z:=fun z e=>by
 obtain⟨r,e1,_⟩:=h;rw[e1]at e;cases e
theorem gP {α:Type}(A:List α)(x d:α)(T:List α){i:Nat}(h:i=A.length):(A++x::T).getD i d=x:=by
 subst h;simp[List.getD_eq_getElem?_getD]
theorem UY {α:Type}(A:List α)(x y:α)(T:List α){i:Nat}(h:i=A.length):(A++x::T).set i y=A++y::T:=by
 subst h;simp
theorem OD (K G:List Claim):((BA .claim (K++G) (K.length:Int) ((K++G).length:Int)).take K.length)=K:=by
 unfold BA;simp only[Int.toNat_natCast];split
 ·rename_i h;rw[List.length_append]at h;have:G=[]:=List.eq_nil_of_length_eq_zero (by omega);subst this;simp
 ·simp
theorem CR {α:Type}{step:Nat->Unit->Int⊕Unit}(l:List α)(d:α)(P:α->Bool)(h:∀ k,k<l.length->step k ()=bif P (l.getD k d)then .inl (k:Int)else .inr ()):(aq step l.length 0 ()=.inr ()/\∀ x∈l,P x=false)\/∃ K x R,l=K++x::R/\aq step l.length 0 ()=.inl (K.length:Int)/\P x=true/\∀ y∈K,P y=false:=by
 have key:∀ (R K:List α),l=K++R->(∀ y∈K,P y=false)->(aq step R.length K.length ()=.inr ()/\∀ x∈l,P x=false)\/∃ K' x R',l=K'++x::R'/\aq step R.length K.length ()=.inl (K'.length:Int)/\P x=true/\∀ y∈K',P y=false:=fun R=>by
  induction R with
  |nil=>exact fun K h hK=>.inl ⟨rfl,fun x hx=>hK x (by rw[h]at hx;simpa using hx)⟩
  |cons x R ih=>
   intro K hl hK;have e:=h K.length (by rw[hl];simp);have g:l.getD K.length d=x:=by rw[hl];simp[List.getD_eq_getElem?_getD]
   rw[g]at e;simp only[List.length_cons,aq,e];cases hx:P x with
   |true=>exact .inr ⟨K,x,R,hl,rfl,hx,hK⟩
   |false=>
    simp only[cond_false];have:=ih (K++[x]) (by rw[hl];simp) (fun y hy=>by
     rcases List.mem_append.1 hy with hy|hy
     ·exact hK y hy
     ·simp at hy;subst hy;exact hx)
    rw[List.length_append]at this;exact this
 exact key l [] rfl (by simp)
theorem Mc (l:List Claim)(hl:l.length<2 ^ 47):aN l/\aG l=l.filter fun x=>!aX x:=by
 have hI:(aB l= -1/\∀ x∈l,aX x=false)\/∃ K x R,l=K++x::R/\aB l=(K.length:Int)/\aX x=true/\∀ y∈K,aX y=false:=by
  unfold aB;rcases CR (step:=cO l) l default (fun x=>aX x) (fun k _=>rfl)with⟨e,h⟩ | ⟨K,x,R,h1,e,h2,h3⟩
  ·rw[e];exact .inl ⟨rfl,h⟩
  ·rw[e];exact .inr ⟨K,x,R,h1,rfl,h2,h3⟩
 unfold aN aG;rcases hI with⟨e,h⟩ | ⟨K,x,R,hl0,e,h2,h3⟩
 ·rw[e];refine⟨(fun h=>by cases h),?_⟩;simp only[BEq.rfl,cond_true];exact(List.filter_eq_self.2 fun x hx=>by rw[h x hx];rfl).symm
 ·have b:((K.length:Int) == -1)=false:=by simp only[beq_eq_false_iff_ne];omega
  have hlen:l.length=K.length+(R.length+1):=by rw[hl0];simp
  have w:i64.wrap ((K.length:Int)+1)=((K.length+1:Nat):Int):=by rw[mb (by omega) (by omega)];omega
  rw[e,w];simp only[b,cond_false];obtain⟨k1,r,k2,K',G',rfl,k3⟩:okI (aU l) (a8 l) (l.length+1) 0 (l,(K.length:Int),((K.length+1:Nat):Int))/\∃ r,aq (aU l) (l.length+1) 0 (l,(K.length:Int),((K.length+1:Nat):Int))=.inl r/\∃ K' G',r=((K'.length:Int),K'++G')/\K'=l.filter fun x=>!aX x:=by
   refine RD (fun s:List Claim×Int×Int=>((l.length:Int) - s.2.2).toNat) (fun s:List Claim×Int×Int=>∃ K' g G' R',s=(K'++g::(G'++R'),(K'.length:Int),((K'.length+(G'.length+1):Nat):Int))/\K'.length+(G'.length+1)+R'.length=l.length/\(l.filter fun x=>!aX x)=K'++R'.filter fun x=>!aX x) _ ?_ _ _ _ ⟨K,x,[],R,by rw[hl0];simp,by rw[hlen];simp;omega,?_⟩ (by simp only;omega)
   ·rintro k s ⟨K',g,G',R',rfl,hn,hF⟩;have hL:(K'++g::(G'++R')).length=l.length:=by rw[<-hn];simp;omega
    unfold a8 aU;simp only[hL];cases R' with
    |nil=>
     have e1:decide (((K'.length+(G'.length+1):Nat):Int) < (l.length:Int))=false:=by rw[decide_eq_false_iff_not];simp only[List.length_nil]at hn;omega
     simp only[e1,cond_false];exact⟨(fun _ h=>by cases h),.inl ⟨_,rfl,K',g::(G'++[]),rfl,by simpa using hF.symm⟩⟩
    |cons y R'=>
     simp only[List.length_cons]at hn;have e1:decide (((K'.length+(G'.length+1):Nat):Int) < (l.length:Int))=true:=by rw[decide_eq_true_eq];omega
     have gy:(K'++g::(G'++y::R')).getD (K'.length+(G'.length+1)) default=y:=by
      have:K'++g::(G'++y::R')=(K'++g::G')++y::R':=by simp
      rw[this];exact gP _ _ _ _ (by simp)
     have w1:i64.wrap (((K'.length+(G'.length+1):Nat):Int)+1)=((K'.length+(G'.length+1)+1:Nat):Int):=by rw[mb (by omega) (by omega)];omega
     have w2:i64.wrap ((K'.length:Int)+1)=((K'.length+1:Nat):Int):=by rw[mb (by omega) (by omega)];omega
     simp only[e1,cond_true,Int.toNat_natCast,gy,w1,w2];refine⟨fun _ _=>⟨by omega,fun _=>by omega⟩,.inr ?_⟩;cases hy:aX y with
     |false=>
      obtain⟨g',G2,hG⟩:∃ g' G2,G'++[y]=g'::G2:=by
       cases G' with
       |nil=>exact⟨y,[],rfl⟩
       |cons a b=>exact⟨a,b++[y],rfl⟩
      have hGl:G'.length+1=G2.length+1:=by have:=congrArg List.length hG;simpa using this
      refine⟨_,rfl,by simp only;omega,K'++[y],g',G2,R',?_,?_,?_⟩
      ·rw[UY K' g y _ rfl];have h1:g'::(G2++R')=G'++y::R':=by rw[<-List.cons_append,<-hG];simp
       rw[List.append_assoc,h1,Prod.mk.injEq,Prod.mk.injEq];refine⟨by simp,by simp,?_⟩;rw[List.length_append];simp only[List.length_cons,List.length_nil];omega
      ·rw[List.length_append];simp only[List.length_cons,List.length_nil];omega
      ·rw[hF,List.filter_cons_of_pos (by rw[hy];rfl)];simp
     |true=>
      refine⟨_,rfl,by simp only;omega,K',g,G'++[y],R',?_,by rw[List.length_append];simp only[List.length_cons,List.length_nil];omega,?_⟩
      ·have:(G'++[y])++R'=G'++y::R':=by simp
       rw[this,List.length_append,Prod.mk.injEq,Prod.mk.injEq];exact⟨rfl,rfl,by simp only[List.length_cons,List.length_nil];omega⟩
      ·rw[hF,List.filter_cons_of_neg (by rw[hy];simp)]
   ·rw[hl0,List.filter_append,List.filter_cons_of_neg (by rw[h2];simp)];congr 1
    exact List.filter_eq_self.2 fun y hy=>by rw[h3 y hy];rfl
  refine⟨fun _=>⟨k1,KD (Q:=fun _=>True) ⟨_,k2,trivial⟩,fun z hz=>?_⟩,?_⟩
  ·rw[k2]at hz;cases hz;have:(BA .claim (K'++G') (K'.length:Int) ((K'++G').length:Int)).length=(K'++G').length:=by
    unfold BA;simp only[Int.toNat_natCast];split
    ·rfl
    ·simp <;>omega
   simp only[this];simp only[List.length_append];omega
  ·rw[k2];simp only[Int.toNat_natCast,List.drop_zero];rw[OD,k3]
open Go.Shelf Go.Sort in
theorem Ja {α:Type}{cf:α->α->Int}(hO:SWO (ltOf cf)){s m:List α}(hp:s.Perm m)(hm:m.Pairwise fun x y=>cf x y<0):apart cf s/\srt cf s=m:=by
 have e1:∀ x y,ltOf cf x y=true↔cf x y<0:=fun x y=>by unfold ltOf;rw[decide_eq_true_eq]
 have hex:∀ x∈m,∀ y∈m,ltOf cf x y=false->ltOf cf y x=false->x=y:=fun x hx y hy h1 h2=>by
  obtain⟨i,hi,rfl⟩:=List.mem_iff_getElem.1 hx;obtain⟨j,hj,rfl⟩:=List.mem_iff_getElem.1 hy;rw[List.pairwise_iff_getElem]at hm;rcases Nat.lt_trichotomy i j with h|h|h
  ·rw[(e1 _ _).2 (hm i j hi hj h)]at h1;cases h1
  ·subst h;rfl
  ·rw[(e1 _ _).2 (hm j i hj hi h)]at h2;cases h2
 refine⟨fun x hx y hy h1 h2=>hex x (hp.subset hx) y (hp.subset hy) h1 h2,?_⟩;unfold srt;have hq:(s.mergeSort fun x y=>!(ltOf cf y x)).Perm m:=(List.mergeSort_perm _ _).trans hp;refine List.Perm.eq_of_pairwise (le:=fun x y=>(!ltOf cf y x)=true) ?_ ?_ ?_ hq
 ·intro x y hx hy h1 h2;simp only[Bool.not_eq_true']at h1 h2;exact hex x (hq.subset hx) y hy h2 h1
 ·refine List.pairwise_mergeSort ?_ ?_ s
  ·intro a b c h1 h2;simp only[Bool.not_eq_true']at h1 h2 |-;exact hO.3 c b a h2 h1
  ·intro a b;simp only[Bool.or_eq_true,Bool.not_eq_true'];cases h1:ltOf cf b a with
   |false=>exact .inl rfl
   |true=>
    right;cases h2:ltOf cf a b with
    |false=>rfl
    |true=>have:=hO.2 _ _ _ h1 h2;rw[hO.1]at this;cases this
 ·refine hm.imp fun {a b} hab=>?_;simp only[Bool.not_eq_true'];cases h2:ltOf cf b a with
  |false=>rfl
  |true=>have:=hO.2 _ _ _ ((e1 _ _).2 hab) h2;rw[hO.1]at this;cases this
theorem Md {n:Nat}(h:n<2 ^ 47):0<=((Go.Lib.bitLen n:Nat):Int)/\((Go.Lib.bitLen n:Nat):Int) <4611686018427387904:=by
 have:Go.Lib.bitLen n<=47:=Go.Lib.bitLen_le n 47 (by omega) h;omega
theorem RE {l m:List Claim}(hl:l.length<2 ^ 46)(hp:(l.filter fun x=>!aX x).Perm m)(hm:m.Pairwise tlt):cS l/\dW l=m:=by
 obtain⟨h1,h2⟩:=Mc l (by omega);obtain⟨h3,h4⟩:=Ja Ha hp (hm.imp fun {a b} h=>(Kx a b).2 h);unfold cS dW aY bb;rw[h2];refine⟨⟨h1,fun hL=>?_⟩,h4⟩;have hw:u64.wrap ((l.filter fun x=>!aX x).length:Int)=((l.filter fun x=>!aX x).length:Int):=Zh (by omega) (by unfold aA at hL;omega);rw[hw];have hb:=Md (n:=(l.filter fun x=>!aX x).length) (by have:=List.length_filter_le (fun x=>!aX x) l;omega);refine⟨⟨by omega,by unfold aA at hL;omega⟩,rfl,rfl,?_,?_,h3⟩
 ·rw[Int.toNat_natCast];exact hb.1
 ·rw[Int.toNat_natCast];exact hb.2
def tb (s:Int)(k:Nat):Bool:=(BitVec.ofInt 64 s).getLsbD k
theorem RG (v:BitVec 64):u64.wrap ((v.toNat:Nat):Int)=((v.toNat:Nat):Int):=by
 have:=v.isLt;simp[IntKind.wrap,IntKind.bits,IntKind.signed];omega
theorem ofw (v:BitVec 64):BitVec.ofInt 64 ((v.toNat:Nat):Int)=v:=by simp
theorem FA (a b:Int)(k:Nat):tb (wa .u64 a b) k=(tb a k&&tb b k):=by
 have e:wa .u64 a b=(((BitVec.ofInt 64 a&&&BitVec.ofInt 64 b).toNat:Nat):Int):=RG _;unfold tb;rw[e,ofw,BitVec.getLsbD_and]
theorem SO (a b:Int)(k:Nat):tb (orI .u64 a b) k=(tb a k||tb b k):=by
 have e:orI .u64 a b=(((BitVec.ofInt 64 a|||BitVec.ofInt 64 b).toNat:Nat):Int):=RG _;unfold tb;rw[e,ofw,BitVec.getLsbD_or]
theorem KE (a b:Int){k:Nat}(hk:k<64):tb (nv .u64 a b) k=(tb a k&& !tb b k):=by
 have e:nv .u64 a b=(((BitVec.ofInt 64 a&&& ~~~(BitVec.ofInt 64 b)).toNat:Nat):Int):=RG _;unfold tb;rw[e,ofw,BitVec.getLsbD_and,BitVec.getLsbD_not];simp[hk]
theorem Me (a b:Int):(nv .u64 a b==0)=true↔∀ k,k<64->tb (nv .u64 a b) k=false:=by
 have e:nv .u64 a b=(((BitVec.ofInt 64 a&&& ~~~(BitVec.ofInt 64 b)).toNat:Nat):Int):=RG _;unfold tb;rw[e,ofw];generalize (BitVec.ofInt 64 a&&& ~~~(BitVec.ofInt 64 b))=v;rw[beq_iff_eq];constructor
 ·intro h k _;have:v=0#64:=BitVec.eq_of_toNat_eq (by simp;omega);rw[this];simp
 ·intro h;have:v=0#64:=BitVec.eq_of_getLsbD_eq fun k hk=>by rw[h k hk];simp
  rw[this];simp
theorem FB (k:Nat):tb 0 k=false:=by unfold tb;simp
theorem OE {n:Int}(h0:0<=n)(h1:n<64){k:Nat}(hk:k<64):tb (zK .u64 1 n) k=decide (n=(k:Int)):=by
 obtain⟨m,rfl⟩:∃ m:Nat,n=m:=⟨n.toNat,by omega⟩;have hm:m<64:=by omega
 have e0:(2:Nat) ^ m<18446744073709551616:=by
  have:=Nat.pow_lt_pow_right (a:=2) (by omega) hm;simpa using this
 have e:zK .u64 1 (m:Int)=(((2 ^ m:Nat):Nat):Int):=by
  unfold zK;have:min (Int.toNat (m:Int)) (IntKind.bits .u64)=m:=by simp[IntKind.bits];omega
  rw[this];have e1:(1:Int)*2 ^ m=((2 ^ m:Nat):Int):=by simp
  rw[e1];simp only[IntKind.wrap,IntKind.bits,IntKind.signed];generalize (2 ^ m:Nat)=q at *;simp;omega
 unfold tb;rw[e];have e2:BitVec.ofInt 64 (((2 ^ m:Nat):Nat):Int)=BitVec.ofNat 64 (2 ^ m):=BitVec.ofInt_natCast _ _;rw[e2,BitVec.getLsbD_ofNat,Nat.testBit_two_pow];simp only[hk,decide_true,Bool.true_and];rw[decide_eq_decide];omega
structure OfOk (l:List Int)(m:Nat):Prop where
 inc:l.Pairwise (· < ·)
 rg:∀ x∈l,0<=x/\x< (m:Int)
theorem OF (l:List Int){m:Nat}(hm:m<=32):∀ (R A:List Int) (s last:Int),l=A++R-> -1<=last->
  (∃ s' last',aq (gJ l m) R.length A.length (s,last)=.inr (s',last')/\(R.Pairwise (· < ·)/\∀ x∈R,last<x/\x< (m:Int))/\∀ k,k<64->tb s' k=(tb s k||decide ((k:Int)∈R)))\/
  (aq (gJ l m) R.length A.length (s,last)=.inl ()/\¬ (R.Pairwise (· < ·)/\∀ x∈R,last<x/\x< (m:Int)))
 | [],A,s,last,_,_=>.inl ⟨s,last,rfl,⟨List.Pairwise.nil,(fun x hx=>by cases hx)⟩,fun k _=>by simp⟩
 |y::R,A,s,last,hl,h0=>by
  have g:l.getD A.length 0=y:=by rw[hl];exact gP A y 0 R rfl
  simp only[List.length_cons,aq,gJ,g];cases hc:(decide (y<=last)) ||(decide (y>=(m:Int)))with
  |true=>
   simp only[cond_true];refine .inr ⟨by first|rfl|trivial,fun h=>?_⟩;have:=h.2 y (by simp);rw[Bool.or_eq_true,decide_eq_true_eq,decide_eq_true_eq]at hc;omega
  |false=>
   simp only[cond_false];rw[Bool.or_eq_false_iff,decide_eq_false_iff_not,decide_eq_false_iff_not]at hc;have ih:=OF l hm R (A++[y]) (orI .u64 s (zK .u64 1 y)) y (by rw[hl];simp) (by omega);rw[List.length_append,List.length_singleton]at ih;rcases ih with⟨s',last',e1,⟨e2,e3⟩,e4⟩ | ⟨e1,e2⟩
   ·refine .inl ⟨s',last',e1,⟨List.pairwise_cons.2 ⟨fun z hz=>(e3 z hz).1,e2⟩,fun x hx=>?_⟩,fun k hk=>?_⟩
    ·rcases List.mem_cons.1 hx with rfl|hx
     ·omega
     ·have:=e3 x hx;omega
    ·rw[e4 k hk,SO,OE (by omega) (by omega) hk,Bool.or_assoc];congr 1
     by_cases h1:y=(k:Int)
     ·simp[h1]
     ·have h2:¬ (k:Int)=y:=fun e=>h1 e.symm;simp[h1,h2]
   ·refine .inr ⟨e1,fun h=>e2 ⟨(List.pairwise_cons.1 h.1).2,fun x hx=>⟨(List.pairwise_cons.1 h.1).1 x hx,(h.2 x (by simp[hx])).2⟩⟩⟩
theorem rD (l:List Int){m:Nat}(hm:m<=32):((ar l m).2=true↔OfOk l m)/\(OfOk l m->∀ k,k<64->tb (ar l m).1 k=decide ((k:Int)∈l)):=by
 have conv:(l.Pairwise (· < ·)/\∀ x∈l,(-1:Int) <x/\x< (m:Int))↔OfOk l m:=⟨fun h=>⟨h.1,fun x hx=>by have:=h.2 x hx;omega⟩,fun h=>⟨h.inc,fun x hx=>by have:=h.rg x hx;omega⟩⟩
 unfold ar;rcases OF l hm l [] 0 (-1) rfl (by omega)with⟨s',last',e1,e2,e3⟩ | ⟨e1,e2⟩
 ·rw[List.length_nil]at e1;rw[e1];exact⟨⟨fun _=>conv.1 e2,fun _=>rfl⟩,fun _ k hk=>by rw[e3 k hk,FB,Bool.false_or]⟩
 ·rw[List.length_nil]at e1;rw[e1];exact⟨⟨(fun h=>by cases h),fun h=>absurd (conv.2 h) e2⟩,fun h=>absurd (conv.2 h) e2⟩
theorem UZ (l:List Int)(m:Int):gl l m:=fun _=>by
 refine y6 (fun _ s=>-1<=s.2) _ _ _ (by simp) fun k s _ _ hs=>⟨fun h=>?_,fun s' e=>?_⟩
 ·rw[Bool.or_eq_false_iff,decide_eq_false_iff_not]at h;omega
 ·unfold gJ at e;cases hc:(decide ((l.getD k 0)<=s.2)) ||(decide ((l.getD k 0)>=m))with
  |true=>rw[hc]at e;cases e
  |false=>
   rw[hc]at e;simp only[cond_false,Sum.inr.injEq]at e;subst e;rw[Bool.or_eq_false_iff,decide_eq_false_iff_not]at hc;show -1<=l.getD k 0;omega
theorem yA (a b:Int):bk a b=true↔∀ k,k<64->tb a k=true->tb b k=true:=by
 unfold bk;rw[Me];constructor
 ·intro h k hk ha;have:=h k hk;rw[KE _ _ hk,ha]at this;simpa using this
 ·intro h k hk;rw[KE _ _ hk];cases ha:tb a k with
  |false=>rfl
  |true=>rw[h k hk ha];rfl
structure CaseOk (sides:List Int)(x:Case):Prop where
 no:0<=x.no/\x.no<=1048576
 hr:0<=x.hour/\x.hour<=4096
 w:x.winner=0\/x.winner=1
 f:OfOk x.facts sides.length
 r:OfOk x.reason sides.length
 sub:∀ k∈x.reason,k∈x.facts/\sides.getD k.toNat 0=x.winner
def dec (m:Nat)(x:Case):PrecedentsDecided:= { winner:=x.winner,facts:=(ar x.facts (m:Int)).1,reason:=(ar x.reason (m:Int)).1}
def Fv (sides:List Int)(w v:Int):Prop:= ∀ k,k<64->tb v k=decide (k<sides.length/\sides.getD k 0=w)
theorem iL (n m:Int):aT n m=true↔0<=n/\n<=m:=by
 unfold aT;simp
theorem KF (b:Cases)(hl:b.sides.length<=32):∀ (R A:List Int) (v0 v1:Int),b.sides=A++R->(∀ k,k<64->tb v0 k=decide (k<A.length/\b.sides.getD k 0=0))->(∀ k,k<64->tb v1 k=decide (k<A.length/\b.sides.getD k 0=1))->
  okI (bj b) (dM b) R.length A.length (v0,v1)/\
  ((∃ a c,aq (bj b) R.length A.length (v0,v1)=.inr (a,c)/\(∀ s∈R,s=0\/s=1)/\Fv b.sides 0 a/\Fv b.sides 1 c)\/(∃ y,aq (bj b) R.length A.length (v0,v1)=.inl y/\¬ ∀ s∈R,s=0\/s=1))
 | [],A,v0,v1,hA,h0,h1=>by
  have e:A.length=b.sides.length:=by rw[hA];simp
  rw[e]at h0 h1;exact⟨trivial,.inl ⟨v0,v1,rfl,(fun s hs=>by cases hs),h0,h1⟩⟩
 |y::R,A,v0,v1,hA,h0,h1=>by
  have g:b.sides.getD A.length 0=y:=by rw[hA];exact gP A y 0 R rfl
  have hA':b.sides=(A++[y])++R:=by rw[hA];simp
  have hlen:A.length<32:=by
   have:b.sides.length=A.length+(R.length+1):=by rw[hA];simp
   omega
  have bit:∀ (v w:Int),(∀ k,k<64->tb v k=decide (k<A.length/\b.sides.getD k 0=w))->y=w->∀ k,k<64->tb (orI .u64 v (zK .u64 1 (A.length:Int))) k=decide (k< (A++[y]).length/\b.sides.getD k 0=w):=fun v w hv hy k hk=>by
   rw[SO,hv k hk,OE (by omega) (by omega) hk,List.length_append,List.length_singleton];rw[Bool.eq_iff_iff,Bool.or_eq_true,decide_eq_true_eq,decide_eq_true_eq,decide_eq_true_eq];by_cases e:k=A.length
   ·subst e;rw[g];omega
   ·constructor
    ·rintro (h|h)
     ·exact⟨by omega,h.2⟩
     ·omega
    ·intro h;exact .inl ⟨by omega,h.2⟩
  have keep:∀ (v w:Int),(∀ k,k<64->tb v k=decide (k<A.length/\b.sides.getD k 0=w))->y≠w->∀ k,k<64->tb v k=decide (k< (A++[y]).length/\b.sides.getD k 0=w):=fun v w hv hy k hk=>by
   rw[hv k hk,List.length_append,List.length_singleton,decide_eq_decide];by_cases e:k=A.length
   ·subst e;rw[g];omega
   ·constructor
    ·intro h;exact⟨by omega,h.2⟩
    ·intro h;exact⟨by omega,h.2⟩
  have ih:=fun v0 v1=>KF b hl R (A++[y]) v0 v1 hA';rw[List.length_append,List.length_singleton]at ih;have hp:dM b A.length (v0,v1):=by
   unfold dM;rw[g];intro h;have h:=(iL y 1).1 (by simpa using h);refine⟨fun _=>by omega,fun h2=>⟨fun _=>by omega,fun h3=>?_⟩⟩;have h2:=of_decide_eq_false h2;have h3:=of_decide_eq_false h3;omega
  have hst:bj b A.length (v0,v1)=bif !(aT y 1)then .inl (v0,v1)else bif decide (y=0)then .inr (orI .u64 v0 (zK .u64 1 (A.length:Int)),v1)else bif decide (y=1)then .inr (v0,orI .u64 v1 (zK .u64 1 (A.length:Int)))else .inr default:=by
   unfold bj;rw[g]
  simp only[List.length_cons,aq,hst];cases hw:aT y 1 with
  |false=>
   refine⟨⟨hp,fun s' e=>?_⟩,.inr ⟨(v0,v1),rfl,fun h=>?_⟩⟩
   ·rw[hst,hw]at e;cases e
   ·have:=h y (by simp);have h2:aT y 1=true:=(iL y 1).2 (by omega);rw[hw]at h2;cases h2
  |true=>
   have hy:=(iL y 1).1 hw;by_cases y0:y=0
   ·obtain⟨i1,i2⟩:=ih (orI .u64 v0 (zK .u64 1 (A.length:Int))) v1 (by have:=bit v0 0 h0 y0;rwa[List.length_append,List.length_singleton]at this) (by have:=keep v1 1 h1 (by omega);rwa[List.length_append,List.length_singleton]at this);simp only[Bool.not_true,cond_false,decide_eq_true y0,cond_true];refine⟨⟨hp,fun s' e=>?_⟩,?_⟩
    ·rw[hst,hw]at e;simp only[Bool.not_true,cond_false,decide_eq_true y0,cond_true,Sum.inr.injEq]at e;subst e;exact i1
    ·rcases i2 with⟨a,c,e1,e2,e3⟩ | ⟨z,e1,e2⟩
     ·exact .inl ⟨a,c,e1,fun s hs=>by rcases List.mem_cons.1 hs with rfl|hs;exact .inl y0;exact e2 s hs,e3⟩
     ·exact .inr ⟨z,e1,fun h=>e2 fun s hs=>h s (by simp[hs])⟩
   ·have y1:y=1:=by omega
    obtain⟨i1,i2⟩:=ih v0 (orI .u64 v1 (zK .u64 1 (A.length:Int))) (by have:=keep v0 0 h0 y0;rwa[List.length_append,List.length_singleton]at this) (by have:=bit v1 1 h1 y1;rwa[List.length_append,List.length_singleton]at this);simp only[Bool.not_true,cond_false,decide_eq_false y0,decide_eq_true y1,cond_true];refine⟨⟨hp,fun s' e=>?_⟩,?_⟩
    ·rw[hst,hw]at e;simp only[Bool.not_true,cond_false,decide_eq_false y0,decide_eq_true y1,cond_true,Sum.inr.injEq]at e;subst e;exact i1
    ·rcases i2 with⟨a,c,e1,e2,e3⟩ | ⟨z,e1,e2⟩
     ·exact .inl ⟨a,c,e1,fun s hs=>by rcases List.mem_cons.1 hs with rfl|hs;exact .inr y1;exact e2 s hs,e3⟩
     ·exact .inr ⟨z,e1,fun h=>e2 fun s hs=>h s (by simp[hs])⟩
theorem KG {sides:List Int}(hl:sides.length<=32){f r:List Int}(hf:OfOk f sides.length)(hr:OfOk r sides.length){w v:Int}(hv:Fv sides w v):
  bk (ar r (sides.length:Int)).1 (wa .u64 (ar f (sides.length:Int)).1 v)=true↔∀ k∈r,k∈f/\sides.getD k.toNat 0=w:=by
 rw[yA];constructor
 ·intro h k hk;have hk2:=hr.rg k hk;have:=h k.toNat (by omega) (by rw[(rD r hl).2 hr _ (by omega)];exact decide_eq_true (by rw[show((k.toNat:Nat):Int)=k by omega];exact hk));rw[FA,(rD f hl).2 hf _ (by omega),hv _ (by omega),Bool.and_eq_true,decide_eq_true_eq,decide_eq_true_eq,show((k.toNat:Nat):Int)=k by omega]at this;exact⟨this.1,this.2.2⟩
 ·intro h k hk ht;rw[(rD r hl).2 hr k hk,decide_eq_true_eq]at ht;have h1:=h k ht;have h2:=hr.rg k ht;rw[FA,(rD f hl).2 hf k hk,hv k hk,Bool.and_eq_true,decide_eq_true_eq,decide_eq_true_eq];refine⟨h1.1,by omega,?_⟩;have:=h1.2
  rwa[Int.toNat_natCast]at this
def kw (sides:List Int):Int->Int->List Case->Prop
 |_,_,[] =>True
 |no,hr,x::R=>no<x.no/\hr<=x.hour/\CaseOk sides x/\kw sides x.no x.hour R
theorem Hs (b:Cases)(hl:b.sides.length<=32){a c:Int}(ha:Fv b.sides 0 a)(hc:Fv b.sides 1 c):∀ (R A:List Case) (acc:List PrecedentsDecided) (no hr w:Int),b.cases=A++R->acc.length+R.length<=64->
  okI (cC b (a,c)) (dN b (a,c)) R.length A.length (acc,no,hr,w)/\
  ((∃ t,aq (cC b (a,c)) R.length A.length (acc,no,hr,w)=.inr (acc++R.map (dec b.sides.length),t)/\kw b.sides no hr R)\/(∃ y,aq (cC b (a,c)) R.length A.length (acc,no,hr,w)=.inl y/\¬kw b.sides no hr R))
 | [],A,acc,no,hr,w,_,_=>⟨trivial,.inl ⟨(no,hr,w),by simp[aq],trivial⟩⟩
 |x::R,A,acc,no,hr,w,hA,hn=>by
  have g:b.cases.getD A.length default=x:=by rw[hA];exact gP A x default R rfl
  have hA':b.cases=(A++[x])++R:=by rw[hA];simp
  simp only[List.length_cons]at hn;have hmB:∀ d:PrecedentsDecided,(acc++[d]).length*24<=ez:=fun d=>by
   simp only[List.length_append,List.length_singleton];unfold ez;omega
  have hp:dN b (a,c) A.length (acc,no,hr,w):=by
   unfold dN;rw[g];intro h;rw[Bool.or_eq_false_iff]at h;have hw:=(iL x.winner 1).1 (by simpa using h.2);refine fun _=>⟨UZ _ _,fun _=>⟨UZ _ _,fun _ _=>hmB _,fun h0=>⟨fun _ _=>hmB _,fun h1=>?_⟩⟩⟩;have h0:=of_decide_eq_false h0;have h1:=of_decide_eq_false h1;omega
  have key:(∃ t,cC b (a,c) A.length (acc,no,hr,w)=.inr (acc++[dec b.sides.length x],x.no,x.hour,t)/\(no<x.no/\hr<=x.hour/\CaseOk b.sides x))\/(cC b (a,c) A.length (acc,no,hr,w)=.inl acc/\¬ (no<x.no/\hr<=x.hour/\CaseOk b.sides x)):=by
   unfold cC;rw[g];cases h1:((((decide (x.no<=no)) ||(!(aT x.no 1048576))) ||(decide (x.hour<hr))) ||(!(aT x.hour 4096))) ||(!(aT x.winner 1))with
   |true=>
    refine .inr ⟨by simp only[h1,cond_true],fun⟨k1,k2,k3⟩ =>?_⟩;have n1:=(iL x.no 1048576).2 k3.no;have n2:=(iL x.hour 4096).2 k3.hr;have n3:=(iL x.winner 1).2 (by rcases k3.w with h|h <;>omega);rw[n1,n2,n3,decide_eq_false (by omega),decide_eq_false (by omega)]at h1;cases h1
   |false=>
    simp only[h1,cond_false];simp only[Bool.or_eq_false_iff,decide_eq_false_iff_not,Bool.not_eq_false']at h1;obtain⟨⟨⟨⟨k1,k2⟩,k3⟩,k4⟩,k5⟩:=h1;have k2:=(iL _ _).1 k2;have k4:=(iL _ _).1 k4;have k5:=(iL _ _).1 k5;have fin:∀ (v:Int),Fv b.sides x.winner v->((((!(ar x.facts (b.sides.length:Int)).2) ||(!(ar x.reason (b.sides.length:Int)).2)) ||(!(bk (ar x.reason (b.sides.length:Int)).1 (wa .u64 (ar x.facts (b.sides.length:Int)).1 v))))=false↔CaseOk b.sides x):=fun v hv=>by
     rw[Bool.or_eq_false_iff,Bool.or_eq_false_iff,Bool.not_eq_false',Bool.not_eq_false',Bool.not_eq_false',(rD x.facts hl).1,(rD x.reason hl).1];constructor
     ·rintro⟨⟨q1,q2⟩,q3⟩;exact⟨k2,k4,by omega,q1,q2,(KG hl q1 q2 hv).1 q3⟩
     ·intro q;exact⟨⟨q.f,q.r⟩,(KG hl q.f q.r hv).2 q.sub⟩
    by_cases w0:x.winner=0
    ·have fin:=fin a (by rw[w0];exact ha);rw[decide_eq_true w0];simp only[cond_true];cases h2:((!(ar x.facts (b.sides.length:Int)).2) ||(!(ar x.reason (b.sides.length:Int)).2)) ||(!(bk (ar x.reason (b.sides.length:Int)).1 (wa .u64 (ar x.facts (b.sides.length:Int)).1 a)))with
     |true=>
      refine .inr ⟨by simp only[h2,cond_true],fun q=>?_⟩;have:=fin.2 q.2.2;rw[h2]at this;cases this
     |false=>exact .inl ⟨_,by simp only[h2,cond_false];rfl,by omega,by omega,fin.1 h2⟩
    ·have w1:x.winner=1:=by omega
     have fin:=fin c (by rw[w1];exact hc);rw[decide_eq_false w0,decide_eq_true w1];simp only[cond_true,cond_false];cases h2:((!(ar x.facts (b.sides.length:Int)).2) ||(!(ar x.reason (b.sides.length:Int)).2)) ||(!(bk (ar x.reason (b.sides.length:Int)).1 (wa .u64 (ar x.facts (b.sides.length:Int)).1 c)))with
     |true=>
      refine .inr ⟨by simp only[h2,cond_true],fun q=>?_⟩;have:=fin.2 q.2.2;rw[h2]at this;cases this
     |false=>exact .inl ⟨_,by simp only[h2,cond_false];rfl,by omega,by omega,fin.1 h2⟩
  simp only[List.length_cons,aq];rcases key with⟨t,k1,k2⟩ | ⟨k1,k2⟩
  ·have ih:=Hs b hl ha hc R (A++[x]) (acc++[dec b.sides.length x]) x.no x.hour t hA' (by simp only[List.length_append,List.length_singleton];omega);rw[List.length_append,List.length_singleton]at ih;obtain⟨i1,i2⟩:=ih;refine⟨⟨hp,fun s' e=>?_⟩,?_⟩
   ·rw[k1]at e;simp only[Sum.inr.injEq]at e;subst e;exact i1
   ·rw[k1];rcases i2 with⟨u,e1,e2⟩ | ⟨y,e1,e2⟩
    ·refine .inl ⟨u,?_,k2.1,k2.2.1,k2.2.2,e2⟩;simp only[e1,List.map_cons,List.append_assoc,List.singleton_append]
    ·exact .inr ⟨y,e1,fun h=>e2 h.2.2.2⟩
  ·refine⟨⟨hp,fun s' e=>?_⟩,.inr ⟨acc,by rw[k1],fun h=>k2 ⟨h.1,h.2.1,h.2.2.1⟩⟩⟩;rw[k1]at e;cases e
structure Rd (b:Cases):Prop where
 s:b.sides.length<=32
 c:b.cases.length<=64
 sd:∀ s∈b.sides,s=0\/s=1
 cs:kw b.sides (-1) 0 b.cases
theorem xB (b:Cases):gb b/\((aH b).2=0↔Rd b)/\(Rd b->∃ a c,Fv b.sides 0 a/\Fv b.sides 1 c/\(aH b).1= { favour:=(a,c),cases:=b.cases.map (dec b.sides.length)}):=by
 cases hz:(decide ((b.sides.length:Int) > 32)) ||(decide ((b.cases.length:Int) > 64))with
 |true=>
  have hn:¬Rd b:=fun h=>by
   have h1:=h.s;have h2:=h.c;rw[decide_eq_false (by omega),decide_eq_false (by omega)]at hz;cases hz
  refine⟨(fun _ h=>by rw[hz]at h;cases h),⟨fun h=>?_,fun h=>absurd h hn⟩,fun h=>absurd h hn⟩;unfold aH at h;rw[hz]at h;cases h
 |false=>
  have hz2:=hz;rw[Bool.or_eq_false_iff,decide_eq_false_iff_not,decide_eq_false_iff_not]at hz2;have hl:b.sides.length<=32:=by omega
  obtain⟨f1,f2⟩:=KF b hl b.sides [] 0 0 rfl (fun k _=>by rw[FB];simp) (fun k _=>by rw[FB];simp);rw[List.length_nil]at f1 f2;rcases f2 with⟨a,c,e1,e2,ha,hc⟩ | ⟨y,e1,e2⟩
  ·obtain⟨g1,g2⟩:=Hs b hl ha hc b.cases [] [] (-1) 0 0 rfl (by simp only[List.length_nil];omega);rw[List.length_nil]at g1 g2;rw[List.nil_append]at g2;refine⟨fun _ _ _=>⟨f1,fun s hs _=>?_⟩,?_⟩
   ·rw[e1]at hs;simp only[Sum.inr.injEq]at hs;subst hs;exact g1
   ·unfold aH;rw[hz,e1];simp only[cond_false];rcases g2 with⟨t,h1,h2⟩ | ⟨y,h1,h2⟩
    ·rw[h1];exact⟨⟨fun _=>⟨hl,by omega,e2,h2⟩,fun _=>rfl⟩,fun _=>⟨a,c,ha,hc,rfl⟩⟩
    ·rw[h1];exact⟨⟨(fun h=>by cases h),fun h=>absurd h.cs h2⟩,fun h=>absurd h.cs h2⟩
  ·refine⟨fun _ _ _=>⟨f1,fun s hs _=>by rw[e1]at hs;cases hs⟩,?_⟩;unfold aH;rw[hz,e1];exact⟨⟨(fun h=>by cases h),fun h=>absurd h.sd e2⟩,fun h=>absurd h.sd e2⟩

def zg (sides F:List Int)(side:Int)(x:Case):Prop:=x.winner=side/\(∀ k∈x.reason,k∈F)/\∀ k∈F,sides.getD k.toNat 0=1 - side->k∈x.facts
def ClashC (x y:Case):Prop:=x.winner≠y.winner/\(∀ k∈x.reason,k∈y.facts)/\∀ k∈y.reason,k∈x.facts
theorem U0 {m:Nat}(hm:m<=32){a b:List Int}(ha:OfOk a m)(hb:OfOk b m):bk (ar a (m:Int)).1 (ar b (m:Int)).1=true↔∀ k∈a,k∈b:=by
 rw[yA];constructor
 ·intro h k hk;have hk2:=ha.rg k hk;have:=h k.toNat (by omega) (by rw[(rD a hm).2 ha _ (by omega)];exact decide_eq_true (by rw[show((k.toNat:Nat):Int)=k by omega];exact hk));rw[(rD b hm).2 hb _ (by omega),decide_eq_true_eq,show((k.toNat:Nat):Int)=k by omega]at this;exact this
 ·intro h k hk ht;rw[(rD a hm).2 ha k hk,decide_eq_true_eq]at ht;rw[(rD b hm).2 hb k hk];exact decide_eq_true (h _ ht)
theorem Jb {sides:List Int}(hl:sides.length<=32){a c:Int}(ha:Fv sides 0 a)(hc:Fv sides 1 c){x:Case}(hx:CaseOk sides x){F:List Int}(hF:OfOk F sides.length){side:Int}(hs:side=0\/side=1)(cs:List PrecedentsDecided):
  (fC (dec sides.length x) side (ar F (sides.length:Int)).1 { favour:=(a,c),cases:=cs} =true↔zg sides F side x)/\fD (dec sides.length x) side (ar F (sides.length:Int)).1 { favour:=(a,c),cases:=cs}:=by
 have hw:i64.wrap (1 - x.winner)=1 - x.winner:=by rcases hx.w with h|h <;>rw[h] <;>exact mb (by omega) (by omega)
 have miss:∀ v:Int,Fv sides (1 - x.winner) v->((nv .u64 (wa .u64 (ar F (sides.length:Int)).1 v) (ar x.facts (sides.length:Int)).1==0)=true↔∀ k∈F,sides.getD k.toNat 0=1 - x.winner->k∈x.facts):=fun v hv=>by
  have:=yA (wa .u64 (ar F (sides.length:Int)).1 v) (ar x.facts (sides.length:Int)).1;unfold bk at this;rw[this];constructor
  ·intro h k hk hk1;have hk2:=hF.rg k hk;have:=h k.toNat (by omega) (by
    rw[FA,(rD F hl).2 hF _ (by omega),hv _ (by omega),Bool.and_eq_true,decide_eq_true_eq,decide_eq_true_eq,show((k.toNat:Nat):Int)=k by omega];exact⟨hk,by omega,hk1⟩)
   rw[(rD x.facts hl).2 hx.f _ (by omega),decide_eq_true_eq,show((k.toNat:Nat):Int)=k by omega]at this;exact this
  ·intro h k hk ht;rw[FA,(rD F hl).2 hF _ hk,hv _ hk,Bool.and_eq_true,decide_eq_true_eq,decide_eq_true_eq]at ht;rw[(rD x.facts hl).2 hx.f k hk];exact decide_eq_true (h _ ht.1 (by rw[Int.toNat_natCast];exact ht.2.2))
 have hm:(e_ { favour:=(a,c),cases:=cs} (dec sides.length x) (ar F (sides.length:Int)).1==0)=true↔∀ k∈F,sides.getD k.toNat 0=1 - x.winner->k∈x.facts:=by
  unfold e_;show((bif decide (i64.wrap (1 - x.winner)=0)then nv .u64 (wa .u64 (ar F (sides.length:Int)).1 a) (ar x.facts (sides.length:Int)).1 else bif decide (i64.wrap (1 - x.winner)=1)then nv .u64 (wa .u64 (ar F (sides.length:Int)).1 c) (ar x.facts (sides.length:Int)).1 else default) ==0)=true↔_;rw[hw];rcases hx.w with h|h
  ·rw[decide_eq_false (by omega:¬1 - x.winner=0),decide_eq_true (by omega:1 - x.winner=1)];exact miss c (by rw[show 1 - x.winner=1 by omega];exact hc)
  ·rw[decide_eq_true (by omega:1 - x.winner=0)];exact miss a (by rw[show 1 - x.winner=0 by omega];exact ha)
 refine⟨?_,fun _ h0 h1=>?_⟩
 ·unfold fC;rw[Bool.and_eq_true,Bool.and_eq_true,hm,beq_iff_eq];show((x.winner=side/\bk (ar x.reason (sides.length:Int)).1 (ar F (sides.length:Int)).1=true)/\_)↔_;rw[U0 hl hx.r hF];unfold zg;constructor
  ·rintro⟨⟨h1,h2⟩,h3⟩;exact⟨h1,h2,by rw[<-h1];exact h3⟩
  ·rintro⟨h1,h2,h3⟩;exact⟨⟨h1,h2⟩,by rw[h1];exact h3⟩
 ·have h0:¬i64.wrap (1 - x.winner)=0:=of_decide_eq_false h0;have h1:¬i64.wrap (1 - x.winner)=1:=of_decide_eq_false h1;rw[hw]at h0 h1;rcases hx.w with h|h <;>omega
theorem Ej {l:List PrecedentsDecided}(hl:l.length<=64){P:PrecedentsDecided->Bool}{step:Nat->Int->(Int⊕Unit)⊕Int}{p:Nat->Int->Prop}(hst:∀ k s,step k s=bif decide (s< (l.length:Int))then(bif P (l.getD (Int.toNat s) default)then .inl (.inl s)else .inr (i64.wrap (s+1)))else .inl (.inr ()))(hp:∀ k (s:Nat),s<=l.length->p k s):
  ∀ (n i s:Nat),s<=l.length->l.length - s<n->okI step p n i (s:Int)/\((∃ j,aq step n i (s:Int)=.inl (.inl j)/\(l.drop s).any P=true)\/(aq step n i (s:Int)=.inl (.inr ())/\(l.drop s).any P=false))
 |0,_,_,_,h=>absurd h (Nat.not_lt_zero _)
 |n+1,i,s,hs,hn=>by
  have e:=hst i (s:Int);by_cases hlt:s<l.length
  ·have hd:l.drop s=l[s]::l.drop (s+1):=List.drop_eq_getElem_cons hlt;have g:l.getD (Int.toNat (s:Int)) default=l[s]:=by rw[Int.toNat_natCast,List.getD_eq_getElem?_getD,List.getElem?_eq_getElem hlt];rfl
   rw[decide_eq_true (by omega:(s:Int) < (l.length:Int)),g]at e;simp only[cond_true]at e;rw[hd,List.any_cons];cases hP:P l[s]with
   |true=>
    rw[hP]at e;simp only[cond_true]at e;refine⟨⟨hp i s hs,fun s' q=>by rw[e]at q;cases q⟩,.inl ⟨(s:Int),by simp only[aq,e],rfl⟩⟩
   |false=>
    rw[hP]at e;simp only[cond_false]at e;rw[mb (by omega) (by omega),show(s:Int)+1=((s+1:Nat):Int) by omega]at e;obtain⟨i1,i2⟩:=Ej hl hst hp n (i+1) (s+1) (by omega) (by omega);refine⟨⟨hp i s hs,fun s' q=>by rw[e]at q;simp only[Sum.inr.injEq]at q;subst q;exact i1⟩,?_⟩;simp only[aq,e,Bool.false_or];exact i2
  ·rw[decide_eq_false (by omega:¬ (s:Int) < (l.length:Int))]at e;simp only[cond_false]at e;refine⟨⟨hp i s hs,fun s' q=>by rw[e]at q;cases q⟩,.inr ⟨by simp only[aq,e],by rw[List.drop_eq_nil_of_le (by omega)];rfl⟩⟩
theorem og {sides:List Int}:∀ {no hr:Int} {l:List Case},kw sides no hr l->∀ x∈l,CaseOk sides x
 |_,_,[],_,x,hx=>by cases hx
 |_,_,y::R,h,x,hx=>by
  rcases List.mem_cons.1 hx with rfl|hx
  ·exact h.2.2.1
  ·exact og h.2.2.2 x hx
theorem uU (b:Cases)(F:List Int){side:Int}(hs:side=0\/side=1):dR b F side/\((ap b F side).2.2=0↔Rd b/\OfOk F b.sides.length)/\(Rd b->OfOk F b.sides.length->((ap b F side).2.1=true↔∃ x∈b.cases,zg b.sides F side x)):=by
 obtain⟨r1,r2,r3⟩:=xB b;have hask:iE b F side:=⟨r1,fun _ _=>UZ _ _⟩;by_cases hR:Rd b
 ·obtain⟨a,c,ha,hc,e⟩:=r3 hR;have e0:=r2.2 hR;have h32:=hR.s;by_cases hF:OfOk F b.sides.length
  ·have hof:=(rD F h32).1.2 hF;have hw:aT side 1=true:=(iL side 1).2 (by omega);have ea:bS b F side=((aH b).1,(ar F (b.sides.length:Int)).1,0):=by
    unfold bS;rw[e0,hof,hw];rfl
   have hlen:(b.cases.map (dec b.sides.length)).length<=64:=by rw[List.length_map];exact hR.c
   have hb:=fun x (hx:x∈b.cases) =>Jb h32 ha hc (og hR.cs x hx) hF hs (b.cases.map (dec b.sides.length));obtain⟨f1,f2⟩:=Ej hlen (P:=fun x=>fC x side (ar F (b.sides.length:Int)).1 { favour:=(a,c),cases:=b.cases.map (dec b.sides.length)})
    (step:=aQ (b.cases.map (dec b.sides.length)) side (ar F (b.sides.length:Int)).1 { favour:=(a,c),cases:=b.cases.map (dec b.sides.length)})
    (p:=ba (b.cases.map (dec b.sides.length)) side (ar F (b.sides.length:Int)).1 { favour:=(a,c),cases:=b.cases.map (dec b.sides.length)})
    (fun k s=>rfl) (fun k s hs2 _ hlt=>by
     have hlt:=of_decide_eq_true hlt;refine⟨⟨by omega,hlt⟩,?_⟩;have hl2:s< (b.cases.map (dec b.sides.length)).length:=by omega
     rw[Int.toNat_natCast,List.getD_eq_getElem?_getD,List.getElem?_eq_getElem hl2,Option.getD_some,List.getElem_map];exact(hb _ (List.getElem_mem _)).2) ((b.cases.map (dec b.sides.length)).length+1) 0 0 (Nat.zero_le _) (by omega)
   rw[List.drop_zero]at f2;have hany:(b.cases.map (dec b.sides.length)).any (fun x=>fC x side (ar F (b.sides.length:Int)).1 { favour:=(a,c),cases:=b.cases.map (dec b.sides.length)})=true↔∃ x∈b.cases,zg b.sides F side x:=by
    rw[List.any_eq_true];constructor
    ·rintro⟨z,hz,h⟩;obtain⟨x,hx,rfl⟩:=List.mem_map.1 hz;exact⟨x,hx,(hb x hx).1.1 h⟩
    ·rintro⟨x,hx,h⟩;exact⟨_,List.mem_map_of_mem hx,(hb x hx).1.2 h⟩
   refine⟨⟨hask,fun _=>?_⟩,⟨fun _=>⟨hR,hF⟩,fun _=>?_⟩,fun _ _=>?_⟩
   ·rw[ea];dsimp only;rw[e];refine⟨f1,fun z hz=>?_⟩;rcases f2 with⟨j,e1,_⟩ | ⟨e1,_⟩
    ·have hz:aq (aQ (b.cases.map (dec b.sides.length)) side (ar F (b.sides.length:Int)).1 { favour:=(a,c),cases:=b.cases.map (dec b.sides.length)}) ((b.cases.map (dec b.sides.length)).length+1) 0 ((0:Nat):Int)=.inr z:=hz;rw[e1]at hz;cases hz
    ·have hz:aq (aQ (b.cases.map (dec b.sides.length)) side (ar F (b.sides.length:Int)).1 { favour:=(a,c),cases:=b.cases.map (dec b.sides.length)}) ((b.cases.map (dec b.sides.length)).length+1) 0 ((0:Nat):Int)=.inr z:=hz;rw[e1]at hz;cases hz
   ·unfold ap;rw[ea];rfl
   ·unfold ap;rw[ea];simp only[bne_self_eq_false,cond_false];rw[e,<-hany];unfold b5;dsimp only;rcases f2 with⟨j,e1,h2⟩ | ⟨e1,h2⟩
    ·have e1:aq (aQ (b.cases.map (dec b.sides.length)) side (ar F (b.sides.length:Int)).1 { favour:=(a,c),cases:=b.cases.map (dec b.sides.length)}) ((b.cases.map (dec b.sides.length)).length+1) 0 0=.inl (.inl j):=e1;rw[e1,h2]
    ·have e1:aq (aQ (b.cases.map (dec b.sides.length)) side (ar F (b.sides.length:Int)).1 { favour:=(a,c),cases:=b.cases.map (dec b.sides.length)}) ((b.cases.map (dec b.sides.length)).length+1) 0 0=.inl (.inr ()):=e1;rw[e1,h2]
  ·have hof:(ar F (b.sides.length:Int)).2=false:=Bool.not_eq_true _▸fun h=>hF ((rD F h32).1.1 h);have ea:bS b F side=((aH b).1,0,520):=by
    unfold bS;rw[e0,hof];rfl
   refine⟨⟨hask,fun h=>by rw[ea]at h;cases h⟩,⟨fun h=>?_,fun h=>absurd h.2 hF⟩,fun _ h=>absurd h hF⟩;unfold ap at h;rw[ea]at h;cases h
 ·have e0:((aH b).2 !=0)=true:=by
   rw[bne_iff_ne];exact fun h=>hR (r2.1 h)
  have ea:bS b F side=((aH b).1,0,(aH b).2):=by
   unfold bS;rw[e0];rfl
  refine⟨⟨hask,fun h=>?_⟩,⟨fun h=>?_,fun h=>absurd h.1 hR⟩,fun h=>absurd h hR⟩
  ·rw[ea]at h;have h:((aH b).2 !=0)=false:=h;rw[e0]at h;cases h
  ·unfold ap at h;rw[ea]at h;have h:(bif((aH b).2 !=0)then((0:Int),false,(aH b).2)else _).2.2=0:=h;rw[e0]at h;exact absurd (r2.1 h) hR
def gQ (q:Int):Bool:=(((decide ((-32)<=q))&&(decide (q<=32)))&&(q !=0))
@[go_sem] def oy:List SV->Option Con:=(pI fun q=>(pE (.det True (.v (.bool (gQ q))))))
theorem qD:FnOk Tryz.prog 83 oy:=by
 have hG:ConsOk Tryz.prog (mkG [] []):=am cg0 cg0;refine av [.o] mixed ai hG (fn:=Tryz.f83) (c:=aa Tryz.f83) kr kr kr kr (br fun q=>(ah (fun hp=>?_)));dsimp only[an]at hp;refine⟨nbl rfl,L0,ag _,?_⟩
 ·unfold aa Tryz.f83;try unfold gQ
  exact zq1
@[go_sem] def rZ (l_:List Int)(k_0:Nat)(s_0:Unit):Unit⊕Unit:=(bif((!(gQ (l_.getD k_0 0))) ||((decide ((k_0:Int) > 0))&&(decide ((l_.getD k_0 0)<=(l_.getD (Int.toNat (i64.wrap ((k_0:Int) - 1))) 0)))))then .inl ()else .inr ())
def jy (l_:List Int)(k_0:Nat)(s_0:Unit):Prop:=((!(gQ (l_.getD k_0 0)))=false->((decide ((k_0:Int) > 0))=true->(0<=(i64.wrap ((k_0:Int) - 1))/\(i64.wrap ((k_0:Int) - 1)) < (l_.length:Int))))
def jz (l_:List Int):Bool:=(match aq (rZ l_) l_.length 0 ()with| .inl x_0_0=>false| .inr s_0=>true)
def iM (l_:List Int):Prop:=(l_.length<=aA->okI (rZ l_) (jy l_) l_.length 0 ())
@[go_sem] def w6:List SV->Option Con:=(pR .int fun l_=>(pE (.det (iM l_) (.v (.bool (jz l_))))))
theorem AY:FnOk Tryz.prog 117 w6:=by
 have hG:ConsOk Tryz.prog (mkG [(83,oy)] []):=am (cgc qD cg0) cg0;refine av [.o] mixed ai hG (fn:=Tryz.f117) (c:=aa Tryz.f117) kr kr kr kr (a_ fun l_=>(ah (fun hp=>?_)));dsimp only[an]at hp;unfold iM at hp;refine⟨nbl rfl,(fun id st=>bif Nat.beq id 0 then some (LCR (ρ:=Unit) (σ:=Unit) 0 [] [] (fun k_0 s_0=>⟨[(0,.rs .int l_),(5,.rs .int l_),(6,.v (.int .i64 (l_.length:Int))),(7,.v (.int .i64 (k_0:Int)))],[]⟩) (rZ l_) (jy l_) l_.length () (l_.length<=aA) (fun _=>.ret) (fun x_0_0=>⟨[(2,.v (.bool false))],[]⟩) st)else none),?_,?_⟩
 ·unfold aa Tryz.f117;simp only[ak,true_and,and_true]
  ·refine bh mixed ai hG kr (fun _=>rfl) (l_.length:Int) rfl dV (fun hb0 k_0 s_0 hlt0 hq0 hw hc=>⟨L0,ag _,?_⟩) (fun hb0 s_0 hc=>?_)
   ·unfold jy at hq0;try simp only[hw,Int.toNat_natCast]at hq0
    exact aL (jl [])
   ·exact aK (jl [])
 ·unfold aa Tryz.f117;try unfold jz
  exact zq1
def iB (c:Clause):Bool:=(decide ((c.if_.length:Int) > 8))
@[go_sem] def vV:List SV->Option Con:=(pD .clause fun c=>(pE (.det True (.v (.bool (iB c))))))
theorem Ad:FnOk Tryz.prog 115 vV:=by
 have hG:ConsOk Tryz.prog (mkG [] []):=am cg0 cg0;refine av [.o] mixed ai hG (fn:=Tryz.f115) (c:=aa Tryz.f115) kr kr kr kr (aF fun c=>(ah (fun hp=>?_)));dsimp only[an]at hp;refine⟨nbl rfl,L0,ag _,?_⟩
 ·unfold aa Tryz.f115;try unfold iB
  exact zq1
def kx (q:Int)(k_:PleasCourt):Bool:=((bg .int .int k_.known q) !=1)
@[go_sem] def td:List SV->Option Con:=(pI fun q=>(pXX .pleasCourt fun k_=>(pE (.det True (.v (.bool (kx q k_)))))))
theorem xH:FnOk Tryz.prog 208 td:=by
 have hG:ConsOk Tryz.prog (mkG [] []):=am cg0 cg0;refine av [.o] mixed ai hG (fn:=Tryz.f208) (c:=aa Tryz.f208) kr kr kr kr (br fun q=>(bI fun k_=>(ah (fun hp=>?_))));dsimp only[an]at hp;refine⟨nbl rfl,L0,ag _,?_⟩
 ·unfold aa Tryz.f208;try unfold kx
  exact zq1
def jA (q:Int)(k_:PleasCourt):Bool:=((bg .int .int k_.known q) ==2)
@[go_sem] def sp:List SV->Option Con:=(pI fun q=>(pXX .pleasCourt fun k_=>(pE (.det True (.v (.bool (jA q k_)))))))
theorem w7:FnOk Tryz.prog 209 sp:=by
 have hG:ConsOk Tryz.prog (mkG [] []):=am cg0 cg0;refine av [.o] mixed ai hG (fn:=Tryz.f209) (c:=aa Tryz.f209) kr kr kr kr (br fun q=>(bI fun k_=>(ah (fun hp=>?_))));dsimp only[an]at hp;refine⟨nbl rfl,L0,ag _,?_⟩
 ·unfold aa Tryz.f209;try unfold jA
  exact zq1
@[go_sem] def ml (s_:List Int)(k_:PleasCourt)(k_0:Nat)(s_0:Unit):Int⊕Unit:=(bif(kx (s_.getD k_0 0) k_)then .inl (k_0:Int)else .inr ())
def jM (s_:List Int)(k_:PleasCourt):Int:=(match aq (ml s_ k_) s_.length 0 ()with| .inl x_0_0=>x_0_0| .inr s_0=>(-1))
@[go_sem] def iN:List SV->Option Con:=(pR .int fun s_=>(pFn 208 (pXX .pleasCourt fun k_=>(pE ((pE (.det True (.v (.int .i64 (jM s_ k_))))))))))
theorem mm:FnOk Tryz.prog 203 iN:=by
 have hG:ConsOk Tryz.prog (mkG [(208,td)] []):=am (cgc xH cg0) cg0;refine av [.o] mixed ai hG (fn:=Tryz.f203) (c:=aa Tryz.f203) kr kr kr kr (a_ fun s_=>(bH (bI fun k_=>(ah ((ah (fun hp=>?_)))))));dsimp only[an]at hp;refine⟨nbl rfl,(fun id st=>bif Nat.beq id 0 then some (LCR (ρ:=Int) (σ:=Unit) 0 [] [] (fun k_0 s_0=>⟨[(0,.rs .int s_),(1,.fn 208 [] [.ep [.ep (cellsOf .pleasCourt k_) 0] 0]),(7,.v (.int .i64 (s_.length:Int))),(8,.v (.int .i64 (k_0:Int)))],[]⟩) (ml s_ k_) pT s_.length () (s_.length<=aA) (fun _=>.ret) (fun x_0_0=>⟨[(4,.v (.int .i64 x_0_0))],[]⟩) st)else none),?_,?_⟩
 ·unfold aa Tryz.f203;simp only[ak,true_and,and_true]
  ·refine bh mixed ai hG kr (fun _=>rfl) (s_.length:Int) rfl dV (fun hb0 k_0 s_0 hlt0 _ hw hc=>⟨L0,ag _,?_⟩) (fun hb0 s_0 hc=>?_)
   ·exact aL (jl [])
   ·exact aK (jl [])
 ·unfold aa Tryz.f203;try unfold jM
  exact zq1
@[go_sem] def kP (s_:List Int)(k_:PleasCourt)(k_0:Nat)(s_0:Unit):Int⊕Unit:=(bif(jA (s_.getD k_0 0) k_)then .inl (k_0:Int)else .inr ())
def iO (s_:List Int)(k_:PleasCourt):Int:=(match aq (kP s_ k_) s_.length 0 ()with| .inl x_0_0=>x_0_0| .inr s_0=>(-1))
@[go_sem] def ia:List SV->Option Con:=(pR .int fun s_=>(pFn 209 (pXX .pleasCourt fun k_=>(pE ((pE (.det True (.v (.int .i64 (iO s_ k_))))))))))
theorem kQ:FnOk Tryz.prog 203 ia:=by
 have hG:ConsOk Tryz.prog (mkG [(209,sp)] []):=am (cgc w7 cg0) cg0;refine av [.o] mixed ai hG (fn:=Tryz.f203) (c:=aa Tryz.f203) kr kr kr kr (a_ fun s_=>(bH (bI fun k_=>(ah ((ah (fun hp=>?_)))))));dsimp only[an]at hp;refine⟨nbl rfl,(fun id st=>bif Nat.beq id 0 then some (LCR (ρ:=Int) (σ:=Unit) 0 [] [] (fun k_0 s_0=>⟨[(0,.rs .int s_),(1,.fn 209 [] [.ep [.ep (cellsOf .pleasCourt k_) 0] 0]),(7,.v (.int .i64 (s_.length:Int))),(8,.v (.int .i64 (k_0:Int)))],[]⟩) (kP s_ k_) pT s_.length () (s_.length<=aA) (fun _=>.ret) (fun x_0_0=>⟨[(4,.v (.int .i64 x_0_0))],[]⟩) st)else none),?_,?_⟩
 ·unfold aa Tryz.f203;simp only[ak,true_and,and_true]
  ·refine bh mixed ai hG kr (fun _=>rfl) (s_.length:Int) rfl dV (fun hb0 k_0 s_0 hlt0 _ hw hc=>⟨L0,ag _,?_⟩) (fun hb0 s_0 hc=>?_)
   ·exact aL (jl [])
   ·exact aK (jl [])
 ·unfold aa Tryz.f203;try unfold iO
  exact zq1
@[go_sem] noncomputable def fQ:List SV->Option Con:=fun l=>(orC (iN l) (ia l))
theorem lE:FnOk Tryz.prog 203 fQ:=(FnOk.or mm kQ)
def fR (s_:List Int)(k_:PleasCourt):Bool:=(decide ((jM s_ k_)>=0))
@[go_sem] def gX:List SV->Option Con:=(pR .int fun s_=>(pFn 208 (pXX .pleasCourt fun k_=>(pE ((pE (.det True (.v (.bool (fR s_ k_))))))))))
theorem Zw {p:Prop}(h:p:=by simp only[go_sem,Nat.reduceBEq,Nat.reduceLeDiff,Nat.reduceLT,decide_true,Nat.reduceAdd,Nat.reduceSub,Nat.reduceMul,Int.reduceLE,Int.reduceLT,Int.reduceToNat,Int.reduceNeg,reduceCtorEq,fQ];all_goals exact cl):p:=h
theorem ky:FnOk Tryz.prog 157 gX:=by
 have hG:ConsOk Tryz.prog (mkG [(203,fun l=>fQ (aP [.sl .int,.o] l))] []):=am (cgc (lE.norm [.sl .int,.o]) cg0) cg0;refine av [.o] mixed ai hG (fn:=Tryz.f157) (c:=aa Tryz.f157) kr kr kr kr (a_ fun s_=>(bH (bI fun k_=>(ah ((ah (fun hp=>?_)))))));dsimp only[an]at hp;refine⟨nbl rfl,L0,ag _,?_⟩
 ·unfold aa Tryz.f157;try unfold fR
  exact Zw
def eU (s_:List Int)(k_:PleasCourt):Bool:=(decide ((iO s_ k_)>=0))
@[go_sem] def gD:List SV->Option Con:=(pR .int fun s_=>(pFn 209 (pXX .pleasCourt fun k_=>(pE ((pE (.det True (.v (.bool (eU s_ k_))))))))))
theorem jB:FnOk Tryz.prog 157 gD:=by
 have hG:ConsOk Tryz.prog (mkG [(203,fun l=>fQ (aP [.sl .int,.o] l))] []):=am (cgc (lE.norm [.sl .int,.o]) cg0) cg0;refine av [.o] mixed ai hG (fn:=Tryz.f157) (c:=aa Tryz.f157) kr kr kr kr (a_ fun s_=>(bH (bI fun k_=>(ah ((ah (fun hp=>?_)))))));dsimp only[an]at hp;refine⟨nbl rfl,L0,ag _,?_⟩
 ·unfold aa Tryz.f157;try unfold eU
  exact Zw
@[go_sem] noncomputable def eK:List SV->Option Con:=fun l=>(orC (gX l) (gD l))
theorem jV:FnOk Tryz.prog 157 eK:=(FnOk.or ky jB)
def gY (k_:PleasCourt)(c:Clause):Bool:=(!(fR c.if_ k_))
@[go_sem] def kz:List SV->Option Con:=(pX .pleasCourt fun k_=>(pD .clause fun c=>(pE (.det True (.v (.bool (gY k_ c)))))))
theorem Zx {p:Prop}(h:p:=by simp only[go_sem,Nat.reduceBEq,Nat.reduceLeDiff,Nat.reduceLT,decide_true,Nat.reduceAdd,Nat.reduceSub,Nat.reduceMul,Int.reduceLE,Int.reduceLT,Int.reduceToNat,Int.reduceNeg,reduceCtorEq,eK];all_goals exact cl):p:=h
theorem mn:FnOk Tryz.prog 165 kz:=by
 have hG:ConsOk Tryz.prog (mkG [(157,fun l=>eK (aP [.sl .int,.o] l))] []):=am (cgc (jV.norm [.sl .int,.o]) cg0) cg0;refine av [.o] mixed ai hG (fn:=Tryz.f165) (c:=aa Tryz.f165) kr kr kr kr (aR fun k_=>(aF fun c=>(ah (fun hp=>?_))));dsimp only[an]at hp;refine⟨nbl rfl,L0,ag _,?_⟩
 ·unfold aa Tryz.f165;try unfold gY
  exact Zx
def ib (k_:PleasCourt)(c:Clause):Bool:=(eU c.if_ k_)
@[go_sem] def mo:List SV->Option Con:=(pX .pleasCourt fun k_=>(pD .clause fun c=>(pE (.det True (.v (.bool (ib k_ c)))))))
theorem oP:FnOk Tryz.prog 167 mo:=by
 have hG:ConsOk Tryz.prog (mkG [(157,fun l=>eK (aP [.sl .int,.o] l))] []):=am (cgc (jV.norm [.sl .int,.o]) cg0) cg0;refine av [.o] mixed ai hG (fn:=Tryz.f167) (c:=aa Tryz.f167) kr kr kr kr (aR fun k_=>(aF fun c=>(ah (fun hp=>?_))));dsimp only[an]at hp;refine⟨nbl rfl,L0,ag _,?_⟩
 ·unfold aa Tryz.f167;try unfold ib
  exact Zx
end Go.Sx
end
