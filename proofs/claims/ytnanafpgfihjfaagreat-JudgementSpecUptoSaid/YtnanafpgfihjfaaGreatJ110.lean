/- Part of the proof that the law JudgementSpec returns true and leaves its arguments as they were, for all arguments of bulk at most 1048576 (the Upto form). -/
import Derived.Test.YtnanafpgfihjfaaGreatJ109
import Derived.Test.YtnanafpgfihjfaaGreatJ108
import Derived.Test.YtnanafpgfihjfaaGreatJ107
import Derived.Calls
import Derived.Shelf.SlSortCmp.NoneTotal
set_option linter.all false
set_option maxHeartbeats 4000000
set_option maxRecDepth 100000
section
namespace Go.Sx
open Go.Proofs
open IntKind (i64)
theorem NG {l0 l1 l2 l3:List Nat}(a0:JL l0)(a1:JL l1)(a2:JL l2)(a3:JL l3){p:Prop}(h:JL l0→JL l1→JL l2→JL l3→p:=by intro ja jb jc jd;(first|done|(repeat' (first|with_reducible refine And.intro ?_ ?_|((with_reducible show _≠_);first|assumption|omega|(simp_all [dT,dW];done) |grind) |with_reducible intro _)) <;>(first|done|with_reducible exact Empty.elim ‹Empty› |with_reducible assumption|rfl|omega|assumption|decide|exact fk ja|exact fk jb|exact fk jc|exact fk jd|exact czl|(simp only[*,cond_true,cond_false,Bool.not_true,Bool.not_false,go_sem,Nat.reduceBEq,Nat.reduceLeDiff,Nat.reduceLT,decide_true,Nat.reduceAdd,Nat.reduceSub,Nat.reduceMul,Int.reduceLE,Int.reduceLT,Int.reduceToNat,Int.reduceNeg,reduceCtorEq];(repeat' (first|with_reducible refine And.intro ?_ ?_|((with_reducible show _≠_);first|assumption|omega|(simp_all [dT,dW];done) |grind) |with_reducible intro _)) <;>(first|done|assumption|rfl|omega|decide|exact fk ja|exact fk jb|exact fk jc|exact fk jd|(simp_all [dT,dW];done))) |(simp_all [okI,dT,dW];done) |(simp_all [dT,dW];(first|done|exact fk2 ja|exact fk2 jb|exact fk2 jc|exact fk2 jd)) |exact fk2 ja|exact fk2 jb|exact fk2 jc|exact fk2 jd))):p:=h a0 a1 a2 a3
theorem NH {l0 l1 l2 l3:List Nat}(a0:JL l0)(a1:JL l1)(a2:JL l2)(a3:JL l3){p:Prop}(h:JL l0→JL l1→JL l2→JL l3→p:=by intro ja jb jc jd;simp only[go_sem,Nat.reduceBEq,Nat.reduceLeDiff,Nat.reduceLT,decide_true,Nat.reduceAdd,Nat.reduceSub,Nat.reduceMul,Int.reduceLE,Int.reduceLT,Int.reduceToNat,Int.reduceNeg,reduceCtorEq];all_goals exact NG ja jb jc jd):p:=h a0 a1 a2 a3
theorem CB {l0 l1:List Nat}(a0:JL l0)(a1:JL l1){p:Prop}(h:JL l0→JL l1→p:=by intro ja jb;simp only[go_sem,Nat.reduceBEq,Nat.reduceLeDiff,Nat.reduceLT,decide_true,Nat.reduceAdd,Nat.reduceSub,Nat.reduceMul,Int.reduceLE,Int.reduceLT,Int.reduceToNat,Int.reduceNeg,reduceCtorEq];all_goals exact rq ja jb):p:=h a0 a1
@[go_sem] def f8 (l_:List Claim)(x:Claim)(k_0:Nat)(s_0:List Claim×Int):(Int×List Claim)⊕(List Claim×Int):=(bif((decide (s_0.2< (l_.length:Int)))&&(aG (l_.getD (Int.toNat s_0.2) (default:Claim)) x))then .inr ((s_0.1++([(l_.getD (Int.toNat s_0.2) (default:Claim))])),(i64.wrap (s_0.2+1)))else .inl (s_0.2,s_0.1))
def iC (l_:List Claim)(x:Claim)(k_0:Nat)(s_0:List Claim×Int):Prop:=(l_.length≤aJ→(((decide (s_0.2< (l_.length:Int)))=true→(0≤s_0.2∧s_0.2< (l_.length:Int)))∧(((decide (s_0.2< (l_.length:Int)))&&(aG (l_.getD (Int.toNat s_0.2) (default:Claim)) x))=true→((0≤s_0.2∧s_0.2< (l_.length:Int))∧((s_0.1++([(l_.getD (Int.toNat s_0.2) (default:Claim))])).length*40≤dC)))))
def nt (l_:List Claim)(x:Claim):List Claim:=(match ay (f8 l_ x) (l_.length+1) 0 ([],0)with| .inl x_0_0=>(bif((decide (x_0_0.1< (l_.length:Int)))&&(!(aG x (l_.getD (Int.toNat x_0_0.1) (default:Claim)))))then((x_0_0.2++([({ right:=x.right,farm:=x.farm,hour:=x.hour,litres:=(i64.wrap (x.litres+(l_.getD (Int.toNat x_0_0.1) (default:Claim)).litres)),rank:=x.rank}:Claim)]))++((l_.take (Int.toNat (l_.length:Int))).drop (Int.toNat (i64.wrap (x_0_0.1+1)))))else((x_0_0.2++([x]))++((l_.take (Int.toNat (l_.length:Int))).drop (Int.toNat x_0_0.1)))) | .inr s_0=>default)
def i7 (l_:List Claim)(x:Claim):Prop:=(okI (f8 l_ x) (iC l_ x) (l_.length+1) 0 ([],0)∧(∀ z_,ay (f8 l_ x) (l_.length+1) 0 ([],0)≠ .inr z_)∧(∀ x_0_0,ay (f8 l_ x) (l_.length+1) 0 ([],0)=.inl x_0_0→(l_.length≤aJ→(((decide (x_0_0.1< (l_.length:Int)))=true→(0≤x_0_0.1∧x_0_0.1< (l_.length:Int)))∧((((decide (x_0_0.1< (l_.length:Int)))&&(!(aG x (l_.getD (Int.toNat x_0_0.1) (default:Claim)))))=true→((0≤x_0_0.1∧x_0_0.1< (l_.length:Int))∧(((x_0_0.2++([({ right:=x.right,farm:=x.farm,hour:=x.hour,litres:=(i64.wrap (x.litres+(l_.getD (Int.toNat x_0_0.1) (default:Claim)).litres)),rank:=x.rank}:Claim)])).length*40≤dC)∧((x_0_0.2++([({ right:=x.right,farm:=x.farm,hour:=x.hour,litres:=(i64.wrap (x.litres+(l_.getD (Int.toNat x_0_0.1) (default:Claim)).litres)),rank:=x.rank}:Claim)])).length≤aJ→((0≤(i64.wrap (x_0_0.1+1))∧(i64.wrap (x_0_0.1+1))≤(l_.length:Int)∧(l_.length:Int)≤(l_.length:Int))∧(((x_0_0.2++([({ right:=x.right,farm:=x.farm,hour:=x.hour,litres:=(i64.wrap (x.litres+(l_.getD (Int.toNat x_0_0.1) (default:Claim)).litres)),rank:=x.rank}:Claim)]))++((l_.take (Int.toNat (l_.length:Int))).drop (Int.toNat (i64.wrap (x_0_0.1+1))))).length*40≤dC))))))∧(((decide (x_0_0.1< (l_.length:Int)))&&(!(aG x (l_.getD (Int.toNat x_0_0.1) (default:Claim)))))=false→(((x_0_0.2++([x])).length*40≤dC)∧((x_0_0.2++([x])).length≤aJ→((0≤x_0_0.1∧x_0_0.1≤(l_.length:Int)∧(l_.length:Int)≤(l_.length:Int))∧(((x_0_0.2++([x]))++((l_.take (Int.toNat (l_.length:Int))).drop (Int.toNat x_0_0.1))).length*40≤dC))))))))))
@[go_sem] def Av:List SV→Option Con:=(pR .claim fun l_=>(pD .claim fun x=>(pE (.det (i7 l_ x) (.nw .claim (nt l_ x))))))
theorem Fa:FnOk Tryz.prog 146 Av:=by
 have hG:ConsOk Tryz.prog (mkG [(99,sR)] []):=aq (cgc vL cg0) cg0;refine yd [(.tmp 4,.claim)] mixed ak hG (fn:=Tryz.f146) (c:=aa Tryz.f146) kr kr kr kr (a8 fun l_=>(aM fun x=>(ai (fun hp=>?_))));dsimp only[ar]at hp;unfold i7 at hp;refine⟨nbl rfl,(fun id st=>bif Nat.beq id 0 then some (LCV (ρ:=(Int×List Claim)) (σ:=(List Claim×Int)) 1 [.slot 5 (.row .claim ([]))] [0,1] (fun k_0 s_0=>⟨[(0,.rs .claim l_),(3,.ptr 0 0),(5,.os 1),(6,.v (.int .i64 s_0.2))],[.cells (cellsOf .claim x),.row .claim s_0.1]⟩) (f8 l_ x) (iC l_ x) (l_.length+1) ([],0) (fun _=>.normal) (fun x_0_0=>⟨[(0,.rs .claim l_),(3,.ptr 0 0),(5,.os 1),(6,.v (.int .i64 x_0_0.1))],[.cells (cellsOf .claim x),.row .claim x_0_0.2]⟩) st)else none),?_,?_⟩
 ·unfold aa Tryz.f146;simp only[ap,true_and,and_true]
  ·refine mq mixed ak hG kr (fun _=>rfl) fun k_0 s_0 hq0=>⟨L0,ah _,?_⟩
   ·unfold iC at hq0;simp only[go_sem,Nat.reduceBEq,Nat.reduceLeDiff,Nat.reduceLT,decide_true,Nat.reduceAdd,Nat.reduceSub,Nat.reduceMul,Int.reduceLE,Int.reduceLT,Int.reduceToNat,Int.reduceNeg,reduceCtorEq];all_goals (repeat' (first|with_reducible refine And.intro ?_ ?_|with_reducible intro _))
    all_goals first|exact rq (jl [0,3]) (jl [0,1]) |(have q:=hq0 (by assumption);first|exact(q.1 (by assumption)).1|exact(q.1 (by assumption)).2|(simp_all;done) |(simp only[*,cond_true,cond_false,dT,dW];first|exact fk (jl [0,3]) |exact fk (jl [0,1])))
 ·unfold aa Tryz.f146;try unfold nt
  exact zq1
@[go_sem] def jQ (l_:List Claim)(farm:Int)(k_0:Nat)(s_0:Int×List Claim):Empty⊕(Int×List Claim):=(bif((l_.getD k_0 (default:Claim)).farm==farm)then(bif(decide ((if s_0.1< (l_.getD k_0 (default:Claim)).litres then s_0.1 else(l_.getD k_0 (default:Claim)).litres) > 0))then .inr ((i64.wrap (s_0.1 - (if s_0.1< (l_.getD k_0 (default:Claim)).litres then s_0.1 else(l_.getD k_0 (default:Claim)).litres))),(s_0.2++([({ right:=(l_.getD k_0 (default:Claim)).right,farm:=(l_.getD k_0 (default:Claim)).farm,hour:=(l_.getD k_0 (default:Claim)).hour,litres:=(if s_0.1< (l_.getD k_0 (default:Claim)).litres then s_0.1 else(l_.getD k_0 (default:Claim)).litres),rank:=(l_.getD k_0 (default:Claim)).rank}:Claim)])))else .inr ((i64.wrap (s_0.1 - (if s_0.1< (l_.getD k_0 (default:Claim)).litres then s_0.1 else(l_.getD k_0 (default:Claim)).litres))),s_0.2))else(bif(decide ((l_.getD k_0 (default:Claim)).litres > 0))then .inr (s_0.1,(s_0.2++([(l_.getD k_0 (default:Claim))])))else .inr (s_0.1,s_0.2)))
def jR (l_:List Claim)(farm:Int)(k_0:Nat)(s_0:Int×List Claim):Prop:=(l_.length≤aJ→((((l_.getD k_0 (default:Claim)).farm==farm)=true→((decide ((if s_0.1< (l_.getD k_0 (default:Claim)).litres then s_0.1 else(l_.getD k_0 (default:Claim)).litres) > 0))=true→((s_0.2++([({ right:=(l_.getD k_0 (default:Claim)).right,farm:=(l_.getD k_0 (default:Claim)).farm,hour:=(l_.getD k_0 (default:Claim)).hour,litres:=(if s_0.1< (l_.getD k_0 (default:Claim)).litres then s_0.1 else(l_.getD k_0 (default:Claim)).litres),rank:=(l_.getD k_0 (default:Claim)).rank}:Claim)])).length*40≤dC)))∧(((l_.getD k_0 (default:Claim)).farm==farm)=false→((decide ((l_.getD k_0 (default:Claim)).litres > 0))=true→((s_0.2++([(l_.getD k_0 (default:Claim))])).length*40≤dC)))))
def ed (l_:List Claim)(farm:Int)(n:Int):List Claim:=(match ay (jQ l_ farm) l_.length 0 (n,[])with| .inl x=>x.elim| .inr s_0=>s_0.2)
def od (l_:List Claim)(farm:Int)(n:Int):Prop:=okI (jQ l_ farm) (jR l_ farm) l_.length 0 (n,[])
@[go_sem] def xO:List SV→Option Con:=(pR .claim fun l_=>(pI fun farm=>(pI fun n=>(pE (.det (od l_ farm n) (.rs .claim (ed l_ farm n)))))))
theorem CC:FnOk Tryz.prog 101 xO:=by
 have hG:ConsOk Tryz.prog (mkG [] []):=aq cg0 cg0;refine ax [.sl .claim] mixed ak hG (fn:=Tryz.f101) (c:=aa Tryz.f101) kr kr kr kr (a8 fun l_=>(bt fun farm=>(bt fun n=>(ai (fun hp=>?_)))));dsimp only[ar]at hp;unfold od at hp;refine⟨nbl rfl,(fun id st=>bif Nat.beq id 0 then some (LCR (ρ:=Empty) (σ:=(Int×List Claim)) 0 [.slot 7 (.row .claim ([]))] [0] (fun k_0 s_0=>⟨[(0,.rs .claim l_),(1,.v (.int .i64 farm)),(2,.v (.int .i64 s_0.1)),(7,.os 0),(8,.v (.int .i64 (k_0:Int)))],[.row .claim s_0.2]⟩) (jQ l_ farm) (jR l_ farm) l_.length (n,[]) (True) ((·.elim)) ((·.elim)) st)else none),?_,?_⟩
 ·unfold aa Tryz.f101;simp only[ap,true_and,and_true]
  ·refine ig (l_.length≤aJ) mixed ak hG kr (fun _=>rfl) (l_.length:Int) rfl fD (fun hb0 k_0 s_0 hlt0 hq0 hw hc=>⟨L0,ah _,?_⟩) (fun hb0 s_0 hc=>?_) fun hb0 k_0 s_0=>?_
   ·unfold jR at hq0;try simp only[hw,Int.toNat_natCast]at hq0
    exact kZ (jl [3]) (jl [0])
   ·exact jN (jl [3]) (jl [0])
   ·exact zq7
 ·unfold aa Tryz.f101;try unfold ed
  exact zq1
@[go_sem] def b_ (a0:List Claim)(a1:Int)(a2:Int)(k_0:Nat)(s_0:Int×List Claim×List Claim×Int):(List Claim×List Claim)⊕(Int×List Claim×List Claim×Int):=(bif(decide (s_0.2.2.2≥0))then(bif((a0.getD (Int.toNat s_0.2.2.2) (default:Claim)).farm==a1)then(bif(decide ((if s_0.1< (a0.getD (Int.toNat s_0.2.2.2) (default:Claim)).litres then s_0.1 else(a0.getD (Int.toNat s_0.2.2.2) (default:Claim)).litres) > 0))then(bif(decide ((i64.wrap ((a0.getD (Int.toNat s_0.2.2.2) (default:Claim)).litres - (if s_0.1< (a0.getD (Int.toNat s_0.2.2.2) (default:Claim)).litres then s_0.1 else(a0.getD (Int.toNat s_0.2.2.2) (default:Claim)).litres))) > 0))then .inr ((i64.wrap (s_0.1 - (if s_0.1< (a0.getD (Int.toNat s_0.2.2.2) (default:Claim)).litres then s_0.1 else(a0.getD (Int.toNat s_0.2.2.2) (default:Claim)).litres))),(nt s_0.2.1 ({ right:=(a0.getD (Int.toNat s_0.2.2.2) (default:Claim)).right,farm:=(a0.getD (Int.toNat s_0.2.2.2) (default:Claim)).farm,hour:=(a0.getD (Int.toNat s_0.2.2.2) (default:Claim)).hour,litres:=(i64.wrap ((a0.getD (Int.toNat s_0.2.2.2) (default:Claim)).litres - (if s_0.1< (a0.getD (Int.toNat s_0.2.2.2) (default:Claim)).litres then s_0.1 else(a0.getD (Int.toNat s_0.2.2.2) (default:Claim)).litres))),rank:=(a0.getD (Int.toNat s_0.2.2.2) (default:Claim)).rank}:Claim)),(s_0.2.2.1++([({ right:=(a0.getD (Int.toNat s_0.2.2.2) (default:Claim)).right,farm:=a2,hour:=(a0.getD (Int.toNat s_0.2.2.2) (default:Claim)).hour,litres:=(if s_0.1< (a0.getD (Int.toNat s_0.2.2.2) (default:Claim)).litres then s_0.1 else(a0.getD (Int.toNat s_0.2.2.2) (default:Claim)).litres),rank:=(a0.getD (Int.toNat s_0.2.2.2) (default:Claim)).rank}:Claim)])),(i64.wrap (s_0.2.2.2 - 1)))else .inr ((i64.wrap (s_0.1 - (if s_0.1< (a0.getD (Int.toNat s_0.2.2.2) (default:Claim)).litres then s_0.1 else(a0.getD (Int.toNat s_0.2.2.2) (default:Claim)).litres))),s_0.2.1,(s_0.2.2.1++([({ right:=(a0.getD (Int.toNat s_0.2.2.2) (default:Claim)).right,farm:=a2,hour:=(a0.getD (Int.toNat s_0.2.2.2) (default:Claim)).hour,litres:=(if s_0.1< (a0.getD (Int.toNat s_0.2.2.2) (default:Claim)).litres then s_0.1 else(a0.getD (Int.toNat s_0.2.2.2) (default:Claim)).litres),rank:=(a0.getD (Int.toNat s_0.2.2.2) (default:Claim)).rank}:Claim)])),(i64.wrap (s_0.2.2.2 - 1))))else(bif(decide ((i64.wrap ((a0.getD (Int.toNat s_0.2.2.2) (default:Claim)).litres - (if s_0.1< (a0.getD (Int.toNat s_0.2.2.2) (default:Claim)).litres then s_0.1 else(a0.getD (Int.toNat s_0.2.2.2) (default:Claim)).litres))) > 0))then .inr ((i64.wrap (s_0.1 - (if s_0.1< (a0.getD (Int.toNat s_0.2.2.2) (default:Claim)).litres then s_0.1 else(a0.getD (Int.toNat s_0.2.2.2) (default:Claim)).litres))),(nt s_0.2.1 ({ right:=(a0.getD (Int.toNat s_0.2.2.2) (default:Claim)).right,farm:=(a0.getD (Int.toNat s_0.2.2.2) (default:Claim)).farm,hour:=(a0.getD (Int.toNat s_0.2.2.2) (default:Claim)).hour,litres:=(i64.wrap ((a0.getD (Int.toNat s_0.2.2.2) (default:Claim)).litres - (if s_0.1< (a0.getD (Int.toNat s_0.2.2.2) (default:Claim)).litres then s_0.1 else(a0.getD (Int.toNat s_0.2.2.2) (default:Claim)).litres))),rank:=(a0.getD (Int.toNat s_0.2.2.2) (default:Claim)).rank}:Claim)),s_0.2.2.1,(i64.wrap (s_0.2.2.2 - 1)))else .inr ((i64.wrap (s_0.1 - (if s_0.1< (a0.getD (Int.toNat s_0.2.2.2) (default:Claim)).litres then s_0.1 else(a0.getD (Int.toNat s_0.2.2.2) (default:Claim)).litres))),s_0.2.1,s_0.2.2.1,(i64.wrap (s_0.2.2.2 - 1)))))else(bif(decide ((a0.getD (Int.toNat s_0.2.2.2) (default:Claim)).litres > 0))then .inr (s_0.1,(nt s_0.2.1 (a0.getD (Int.toNat s_0.2.2.2) (default:Claim))),s_0.2.2.1,(i64.wrap (s_0.2.2.2 - 1)))else .inr (s_0.1,s_0.2.1,s_0.2.2.1,(i64.wrap (s_0.2.2.2 - 1)))))else .inl (s_0.2.1,s_0.2.2.1))
def g_ (a0:List Claim)(a1:Int)(a2:Int)(k_0:Nat)(s_0:Int×List Claim×List Claim×Int):Prop:=((decide (s_0.2.2.2≥0))=true→((0≤s_0.2.2.2∧s_0.2.2.2< (a0.length:Int))∧((((a0.getD (Int.toNat s_0.2.2.2) (default:Claim)).farm==a1)=true→(((decide ((if s_0.1< (a0.getD (Int.toNat s_0.2.2.2) (default:Claim)).litres then s_0.1 else(a0.getD (Int.toNat s_0.2.2.2) (default:Claim)).litres) > 0))=true→(((s_0.2.2.1++([({ right:=(a0.getD (Int.toNat s_0.2.2.2) (default:Claim)).right,farm:=a2,hour:=(a0.getD (Int.toNat s_0.2.2.2) (default:Claim)).hour,litres:=(if s_0.1< (a0.getD (Int.toNat s_0.2.2.2) (default:Claim)).litres then s_0.1 else(a0.getD (Int.toNat s_0.2.2.2) (default:Claim)).litres),rank:=(a0.getD (Int.toNat s_0.2.2.2) (default:Claim)).rank}:Claim)])).length*40≤dC)∧((s_0.2.2.1++([({ right:=(a0.getD (Int.toNat s_0.2.2.2) (default:Claim)).right,farm:=a2,hour:=(a0.getD (Int.toNat s_0.2.2.2) (default:Claim)).hour,litres:=(if s_0.1< (a0.getD (Int.toNat s_0.2.2.2) (default:Claim)).litres then s_0.1 else(a0.getD (Int.toNat s_0.2.2.2) (default:Claim)).litres),rank:=(a0.getD (Int.toNat s_0.2.2.2) (default:Claim)).rank}:Claim)])).length≤aJ→((decide ((i64.wrap ((a0.getD (Int.toNat s_0.2.2.2) (default:Claim)).litres - (if s_0.1< (a0.getD (Int.toNat s_0.2.2.2) (default:Claim)).litres then s_0.1 else(a0.getD (Int.toNat s_0.2.2.2) (default:Claim)).litres))) > 0))=true→(i7 s_0.2.1 ({ right:=(a0.getD (Int.toNat s_0.2.2.2) (default:Claim)).right,farm:=(a0.getD (Int.toNat s_0.2.2.2) (default:Claim)).farm,hour:=(a0.getD (Int.toNat s_0.2.2.2) (default:Claim)).hour,litres:=(i64.wrap ((a0.getD (Int.toNat s_0.2.2.2) (default:Claim)).litres - (if s_0.1< (a0.getD (Int.toNat s_0.2.2.2) (default:Claim)).litres then s_0.1 else(a0.getD (Int.toNat s_0.2.2.2) (default:Claim)).litres))),rank:=(a0.getD (Int.toNat s_0.2.2.2) (default:Claim)).rank}:Claim))))))∧((decide ((if s_0.1< (a0.getD (Int.toNat s_0.2.2.2) (default:Claim)).litres then s_0.1 else(a0.getD (Int.toNat s_0.2.2.2) (default:Claim)).litres) > 0))=false→((decide ((i64.wrap ((a0.getD (Int.toNat s_0.2.2.2) (default:Claim)).litres - (if s_0.1< (a0.getD (Int.toNat s_0.2.2.2) (default:Claim)).litres then s_0.1 else(a0.getD (Int.toNat s_0.2.2.2) (default:Claim)).litres))) > 0))=true→(i7 s_0.2.1 ({ right:=(a0.getD (Int.toNat s_0.2.2.2) (default:Claim)).right,farm:=(a0.getD (Int.toNat s_0.2.2.2) (default:Claim)).farm,hour:=(a0.getD (Int.toNat s_0.2.2.2) (default:Claim)).hour,litres:=(i64.wrap ((a0.getD (Int.toNat s_0.2.2.2) (default:Claim)).litres - (if s_0.1< (a0.getD (Int.toNat s_0.2.2.2) (default:Claim)).litres then s_0.1 else(a0.getD (Int.toNat s_0.2.2.2) (default:Claim)).litres))),rank:=(a0.getD (Int.toNat s_0.2.2.2) (default:Claim)).rank}:Claim))))))∧(((a0.getD (Int.toNat s_0.2.2.2) (default:Claim)).farm==a1)=false→((decide ((a0.getD (Int.toNat s_0.2.2.2) (default:Claim)).litres > 0))=true→(i7 s_0.2.1 (a0.getD (Int.toNat s_0.2.2.2) (default:Claim))))))))
@[go_sem] def lp (x_0_0:List Claim×List Claim)(k_1:Nat)(s_1:List Claim):Empty⊕(List Claim):=.inr (nt s_1 (x_0_0.2.getD k_1 (default:Claim)))
def k9 (x_0_0:List Claim×List Claim)(k_1:Nat)(s_1:List Claim):Prop:=(x_0_0.2.length≤aJ→(i7 s_1 (x_0_0.2.getD k_1 (default:Claim))))
def hM (a0:List Claim)(a1:Int)(a2:Int)(a3:Int):List Claim:=(match ay (b_ a0 a1 a2) (a0.length+1) 0 (a3,[],[],(i64.wrap ((a0.length:Int) - 1)))with| .inl x_0_0=>(match ay (lp x_0_0) x_0_0.2.length 0 x_0_0.1 with| .inl x=>x.elim| .inr s_1=>s_1) | .inr s_0=>default)
def nu (a0:List Claim)(a1:Int)(a2:Int)(a3:Int):Prop:=(a0.length≤aJ→(okI (b_ a0 a1 a2) (g_ a0 a1 a2) (a0.length+1) 0 (a3,[],[],(i64.wrap ((a0.length:Int) - 1)))∧(∀ z_,ay (b_ a0 a1 a2) (a0.length+1) 0 (a3,[],[],(i64.wrap ((a0.length:Int) - 1)))≠ .inr z_)∧(∀ x_0_0,ay (b_ a0 a1 a2) (a0.length+1) 0 (a3,[],[],(i64.wrap ((a0.length:Int) - 1)))=.inl x_0_0→okI (lp x_0_0) (k9 x_0_0) x_0_0.2.length 0 x_0_0.1)))
@[go_sem] def yZ:List SV→Option Con:=(pR .claim fun a0=>(pI fun a1=>(pI fun a2=>(pI fun a3=>(pE (.det (nu a0 a1 a2 a3) (.rs .claim (hM a0 a1 a2 a3))))))))
theorem Dh:FnOk Tryz.prog 102 yZ:=by
 have hG:ConsOk Tryz.prog (mkG [(146,fun l=>Av (a7 [.sl .claim,.st .claim] l))] []):=aq (cgc (Fa.norm [.sl .claim,.st .claim]) cg0) cg0;refine ax [.sl .claim] mixed ak hG (fn:=Tryz.f102) (c:=aa Tryz.f102) kr kr kr kr (a8 fun a0=>(bt fun a1=>(bt fun a2=>(bt fun a3=>(ai (fun hp=>?_))))));dsimp only[ar]at hp;unfold nu at hp;refine⟨nbl rfl,(fun id st=>bif Nat.beq id 0 then some (LCV (ρ:=(List Claim×List Claim)) (σ:=(Int×List Claim×List Claim×Int)) 0 [.slot 9 (.row .claim ([])),.slot 10 (.row .claim ([]))] [0,1] (fun k_0 s_0=>⟨[(0,.rs .claim a0),(1,.v (.int .i64 a1)),(2,.v (.int .i64 a2)),(3,.v (.int .i64 s_0.1)),(9,.os 0),(10,.os 1),(11,.v (.int .i64 s_0.2.2.2))],[.row .claim s_0.2.1,.row .claim s_0.2.2.1]⟩) (b_ a0 a1 a2) (g_ a0 a1 a2) (a0.length+1) (a3,[],[],(i64.wrap ((a0.length:Int) - 1))) (fun _=>.normal) (fun x_0_0=>⟨[(9,.os 0),(10,.os 1)],[.row .claim x_0_0.1,.row .claim x_0_0.2]⟩) st)else bif Nat.beq id 2 then some (LCR (ρ:=Empty) (σ:=(List Claim)) 2 [] [0,1,0] (fun k_1 s_1=>⟨[(9,.os 2),(10,.os 1),(14,.v (.int .i64 (k_1:Int)))],[.dead,.row .claim (dW (ay (b_ a0 a1 a2) (a0.length+1) 0 (a3,[],[],(i64.wrap ((a0.length:Int) - 1))))).2,.row .claim s_1]⟩) (lp (dW (ay (b_ a0 a1 a2) (a0.length+1) 0 (a3,[],[],(i64.wrap ((a0.length:Int) - 1)))))) (k9 (dW (ay (b_ a0 a1 a2) (a0.length+1) 0 (a3,[],[],(i64.wrap ((a0.length:Int) - 1)))))) ((dW (ay (b_ a0 a1 a2) (a0.length+1) 0 (a3,[],[],(i64.wrap ((a0.length:Int) - 1))))).2.length) ((dW (ay (b_ a0 a1 a2) (a0.length+1) 0 (a3,[],[],(i64.wrap ((a0.length:Int) - 1))))).1) (True) ((·.elim)) ((·.elim)) st)else none),?_,?_⟩
 ·unfold aa Tryz.f102;simp only[ap,true_and,and_true];refine⟨?_,?_⟩
  ·refine mq mixed ak hG kr (fun _=>rfl) fun k_0 s_0 hq0=>⟨L0,ah _,?_⟩
   ·unfold g_ at hq0;exact NH (jl [5,4]) (jl [0,4]) (jl [3,1]) (jl [0,1])
  ·refine ig ((dW (ay (b_ a0 a1 a2) (a0.length+1) 0 (a3,[],[],(i64.wrap ((a0.length:Int) - 1))))).2.length≤aJ) mixed ak hG kr (fun _=>rfl) ((dW (ay (b_ a0 a1 a2) (a0.length+1) 0 (a3,[],[],(i64.wrap ((a0.length:Int) - 1))))).2.length:Int) rfl fD (fun hb1 k_1 s_1 hlt1 hq1 hw hc=>⟨L0,ah _,?_⟩) (fun hb1 s_1 hc=>?_) fun hb1 k_1 s_1=>?_
   ·unfold k9 at hq1;try simp only[hw,Int.toNat_natCast]at hq1
    exact kZ (jl [0,1,3]) (jl [0,1,2])
   ·exact jN (jl [0,1,3]) (jl [0,1,2])
   ·exact TN
 ·unfold aa Tryz.f102;try unfold hM
  exact zq1
@[go_sem] def jq (j:List Judgement)(h_:Int)(k_0:Nat)(s_0:List Claim):Empty⊕(List Claim):=(bif(!(bg j (j.getD k_0 (default:Judgement)) h_))then .inr s_0 else(bif((j.getD k_0 (default:Judgement)).kind==1)then .inr (ed s_0 ((j.getD k_0 (default:Judgement)).farm) 0)else(bif((j.getD k_0 (default:Judgement)).kind==2)then .inr (ed s_0 ((j.getD k_0 (default:Judgement)).farm) ((j.getD k_0 (default:Judgement)).n))else(bif((j.getD k_0 (default:Judgement)).kind==3)then .inr (hM s_0 ((j.getD k_0 (default:Judgement)).farm) ((j.getD k_0 (default:Judgement)).other) ((j.getD k_0 (default:Judgement)).n))else .inr s_0))))
def ox (j:List Judgement)(h_:Int)(k_0:Nat)(s_0:List Claim):Prop:=(j.length≤aJ→((!(bg j (j.getD k_0 (default:Judgement)) h_))=false→((((j.getD k_0 (default:Judgement)).kind==1)=true→(od s_0 ((j.getD k_0 (default:Judgement)).farm) 0))∧(((j.getD k_0 (default:Judgement)).kind==1)=false→((((j.getD k_0 (default:Judgement)).kind==2)=true→(od s_0 ((j.getD k_0 (default:Judgement)).farm) ((j.getD k_0 (default:Judgement)).n)))∧(((j.getD k_0 (default:Judgement)).kind==2)=false→(((j.getD k_0 (default:Judgement)).kind==3)=true→(nu s_0 ((j.getD k_0 (default:Judgement)).farm) ((j.getD k_0 (default:Judgement)).other) ((j.getD k_0 (default:Judgement)).n)))))))))
def mA (l_:List Claim)(j:List Judgement)(h_:Int):List Claim:=(match ay (jq j h_) j.length 0 l_ with| .inl x=>x.elim| .inr s_0=>s_0)
def sq (l_:List Claim)(j:List Judgement)(h_:Int):Prop:=okI (jq j h_) (ox j h_) j.length 0 l_
@[go_sem] def y1:List SV→Option Con:=(pR .claim fun l_=>(pR .judgement fun j=>(pI fun h_=>(pE (.det (sq l_ j h_) (.rs .claim (mA l_ j h_)))))))
theorem Di:FnOk Tryz.prog 51 y1:=by
 have hG:ConsOk Tryz.prog (mkG [(100,fun l=>vM (a7 [.sl .judgement,.st .judgement,.o] l)),(101,fun l=>xO (a7 [.sl .claim,.o,.o] l)),(102,fun l=>yZ (a7 [.sl .claim,.o,.o,.o] l))] []):=aq (cgc (zS.norm [.sl .judgement,.st .judgement,.o]) (cgc (CC.norm [.sl .claim,.o,.o]) (cgc (Dh.norm [.sl .claim,.o,.o,.o]) cg0))) cg0;refine ax [.sl .claim] mixed ak hG (fn:=Tryz.f51) (c:=aa Tryz.f51) kr kr kr kr (a8 fun l_=>(a8 fun j=>(bt fun h_=>(ai (fun hp=>?_)))));dsimp only[ar]at hp;unfold sq at hp;refine⟨nbl rfl,(fun id st=>bif Nat.beq id 0 then some (LCR (ρ:=Empty) (σ:=(List Claim)) 0 [] [] (fun k_0 s_0=>⟨[(0,.rs .claim s_0),(1,.rs .judgement j),(2,.v (.int .i64 h_)),(7,.v (.int .i64 (k_0:Int)))],[]⟩) (jq j h_) (ox j h_) j.length l_ (True) ((·.elim)) ((·.elim)) st)else none),?_,?_⟩
 ·unfold aa Tryz.f51;simp only[ap,true_and,and_true]
  ·refine ig (j.length≤aJ) mixed ak hG kr (fun _=>rfl) (j.length:Int) rfl fD (fun hb0 k_0 s_0 hlt0 hq0 hw hc=>⟨L0,ah _,?_⟩) (fun hb0 s_0 hc=>?_) fun hb0 k_0 s_0=>?_
   ·unfold ox at hq0;try simp only[hw,Int.toNat_natCast]at hq0
    exact aY (jl [])
   ·exact aX (jl [])
   ·exact zq7
 ·unfold aa Tryz.f51;try unfold mA
  exact zq1
@[go_sem] def bN (a1:List Claim)(s_0:List Claim×Int)(k_1:Nat)(s_1:Int):Int⊕Int:=(bif((decide (s_1< (a1.length:Int)))&&((a1.getD (Int.toNat s_1) (default:Claim)).hour==(a1.getD (Int.toNat s_0.2) (default:Claim)).hour))then .inr (i64.wrap (s_1+1))else .inl s_1)
def iD (a1:List Claim)(s_0:List Claim×Int)(k_1:Nat)(s_1:Int):Prop:=(a1.length≤aJ→(((decide (s_1< (a1.length:Int)))=true→(0≤s_1∧s_1< (a1.length:Int)))∧((decide (s_1< (a1.length:Int)))=true→(0≤s_0.2∧s_0.2< (a1.length:Int)))))
@[go_sem] def bp (a1:List Claim)(a2:List Judgement)(k_0:Nat)(s_0:List Claim×Int):(List Claim)⊕(List Claim×Int):=(bif(decide (s_0.2< (a1.length:Int)))then(match ay (bN a1 s_0) (a1.length+1) 0 s_0.2 with| .inl x_1_0=>.inr ((s_0.1++(mA ((a1.take (Int.toNat x_1_0)).drop (Int.toNat s_0.2)) a2 ((a1.getD (Int.toNat s_0.2) (default:Claim)).hour))),x_1_0) | .inr s_1=>.inr default)else .inl s_0.1)
def iE (a1:List Claim)(a2:List Judgement)(k_0:Nat)(s_0:List Claim×Int):Prop:=(a1.length≤aJ→((decide (s_0.2< (a1.length:Int)))=true→(okI (bN a1 s_0) (iD a1 s_0) (a1.length+1) 0 s_0.2∧(∀ z_,ay (bN a1 s_0) (a1.length+1) 0 s_0.2≠ .inr z_)∧(∀ x_1_0,ay (bN a1 s_0) (a1.length+1) 0 s_0.2=.inl x_1_0→((0≤s_0.2∧s_0.2≤x_1_0∧x_1_0≤(a1.length:Int))∧((0≤s_0.2∧s_0.2< (a1.length:Int))∧((sq ((a1.take (Int.toNat x_1_0)).drop (Int.toNat s_0.2)) a2 ((a1.getD (Int.toNat s_0.2) (default:Claim)).hour))∧((s_0.1++(mA ((a1.take (Int.toNat x_1_0)).drop (Int.toNat s_0.2)) a2 ((a1.getD (Int.toNat s_0.2) (default:Claim)).hour))).length*40≤dC))))))))
@[go_sem] def jS (x_0_0:List Claim)(k_2:Nat)(s_2:Unit):Unit⊕Unit:=(bif(decide ((x_0_0.getD k_2 (default:Claim)).litres > 1073741824))then .inl ()else .inr ())
def fX (a0:District)(a1:List Claim)(a2:List Judgement):List Claim×Int:=(bif((cW a0 a2) !=0)then([],(cW a0 a2))else(bif((mz a0 a1) !=0)then([],(mz a0 a1))else(match ay (bp a1 a2) (a1.length+1) 0 ([],0)with| .inl x_0_0=>(bif(decide ((x_0_0.length:Int) > 4096))then([],2)else(match ay (jS x_0_0) x_0_0.length 0 ()with| .inl x_2_0=>([],2) | .inr s_2=>(x_0_0,0))) | .inr s_0=>default)))
def oy (a0:District)(a1:List Claim)(a2:List Judgement):Prop:=((ln a0 a2)∧(((cW a0 a2) !=0)=false→((qJ a0 a1)∧(((mz a0 a1) !=0)=false→(okI (bp a1 a2) (iE a1 a2) (a1.length+1) 0 ([],0)∧(∀ z_,ay (bp a1 a2) (a1.length+1) 0 ([],0)≠ .inr z_))))))
@[go_sem] def vN:List SV→Option Con:=(pD .district fun a0=>(pR .claim fun a1=>(pR .judgement fun a2=>(pE (.det (oy a0 a1 a2) (.tup [.nw .claim ((fX a0 a1 a2).1),.v (.int .i64 ((fX a0 a1 a2).2))]))))))
theorem zq76 {p:Prop}(h:p:=by simp only[go_sem,Nat.reduceBEq,Nat.reduceLeDiff,Nat.reduceLT,decide_true,Nat.reduceAdd,Nat.reduceSub,Nat.reduceMul,Int.reduceLE,Int.reduceLT,Int.reduceToNat,Int.reduceNeg,reduceCtorEq,hb2]):p:=h
theorem zT:FnOk Tryz.prog 13 vN:=by
 have hG:ConsOk Tryz.prog (mkG [(17,fun l=>qN (a7 [.st .district,.sl .judgement] l)),(50,fun l=>xH (a7 [.st .district,.sl .claim] l)),(51,fun l=>y1 (a7 [.sl .claim,.sl .judgement,.o] l))] []):=aq (cgc (sW.norm [.st .district,.sl .judgement]) (cgc (Cp.norm [.st .district,.sl .claim]) (cgc (Di.norm [.sl .claim,.sl .judgement,.o]) cg0))) cg0;refine yd [(.tmp 6,.claim)] mixed ak hG (fn:=Tryz.f13) (c:=aa Tryz.f13) kr kr kr kr (aM fun a0=>(a8 fun a1=>(a8 fun a2=>(ai (fun hp=>?_)))));dsimp only[ar]at hp;unfold oy at hp;refine⟨nbl rfl,(fun id st=>bif Nat.beq id 0 then some (LCV (ρ:=(List Claim)) (σ:=(List Claim×Int)) 1 [.slot 9 (.row .claim ([]))] [0,1] (fun k_0 s_0=>⟨[(1,.rs .claim a1),(2,.rs .judgement a2),(9,.os 1),(10,.v (.int .i64 s_0.2))],[.dead,.row .claim s_0.1]⟩) (bp a1 a2) (iE a1 a2) (a1.length+1) ([],0) (fun _=>.normal) (fun x_0_0=>⟨[(9,.os 1)],[.dead,.row .claim x_0_0]⟩) st)else bif Nat.beq id 4 then some (LCR (ρ:=Unit) (σ:=Unit) 2 [] [0,1] (fun k_2 s_2=>⟨[(9,.os 1),(12,.v (.int .i64 (k_2:Int)))],[.dead,.row .claim (dW (ay (bp a1 a2) (a1.length+1) 0 ([],0)))]⟩) (jS (dW (ay (bp a1 a2) (a1.length+1) 0 ([],0)))) pT ((dW (ay (bp a1 a2) (a1.length+1) 0 ([],0))).length) () (True) (fun _=>.ret) (fun x_2_0=>⟨[(6,.v (.slice none 0 0)),(7,.v (.int .i64 2))],[.dead,.dead]⟩) st)else none),?_,?_⟩
 ·unfold aa Tryz.f13;simp only[ap,true_and,and_true];refine⟨?_,?_⟩
  ·refine mq mixed ak hG kr (fun _=>rfl) fun k_0 s_0 hq0=>⟨(fun id st=>bif Nat.beq id 2 then some (LCV (ρ:=Int) (σ:=Int) 2 [] [0,1] (fun k_1 s_1=>⟨[(1,.rs .claim a1),(2,.rs .judgement a2),(9,.os 1),(10,.v (.int .i64 s_0.2)),(11,.v (.int .i64 s_1))],[.dead,.row .claim s_0.1]⟩) (bN a1 s_0) (iD a1 s_0) (a1.length+1) s_0.2 (fun _=>.normal) (fun x_1_0=>⟨[(1,.rs .claim a1),(2,.rs .judgement a2),(9,.os 1),(10,.v (.int .i64 s_0.2)),(11,.v (.int .i64 x_1_0))],[.dead,.row .claim s_0.1]⟩) st)else none),?_,?_⟩
   ·simp only[ap,true_and,and_true]
    ·refine mq mixed ak hG kr (fun _=>rfl) fun k_1 s_1 hq1=>⟨L0,ah _,?_⟩
     ·unfold iD at hq1;exact rg (jl [0,1])
   ·unfold iE at hq0;exact CB (jl [0,2]) (jl [0,1])
  ·refine ig ((dW (ay (bp a1 a2) (a1.length+1) 0 ([],0))).length≤aJ) mixed ak hG kr (fun _=>rfl) ((dW (ay (bp a1 a2) (a1.length+1) 0 ([],0))).length:Int) rfl fD (fun hb2 k_2 s_2 hlt2 _ hw hc=>⟨L0,ah _,?_⟩) (fun hb2 s_2 hc=>?_) fun hb2 k_2 s_2=>?_
   ·exact aY (jl [0,1])
   ·exact aX (jl [0,1])
   ·exact zq76
 ·unfold aa Tryz.f13;try unfold fX
  exact zq1
@[go_sem] def jT (a1:List Judgement)(a2:Int)(k_0:Nat)(s_0:List Int):Empty⊕(List Int):=(bif((((a1.getD k_0 (default:Judgement)).kind==4)&&(decide ((a1.getD k_0 (default:Judgement)).hour≤a2)))&&(!(oZ a1 (a1.getD k_0 (default:Judgement)) a2)))then .inr ((s_0.set (Int.toNat ((a1.getD k_0 (default:Judgement)).farm)) (i64.wrap ((s_0.getD (Int.toNat ((a1.getD k_0 (default:Judgement)).farm)) (0:Int))+(a1.getD k_0 (default:Judgement)).n))).set (Int.toNat ((a1.getD k_0 (default:Judgement)).other)) (i64.wrap (((s_0.set (Int.toNat ((a1.getD k_0 (default:Judgement)).farm)) (i64.wrap ((s_0.getD (Int.toNat ((a1.getD k_0 (default:Judgement)).farm)) (0:Int))+(a1.getD k_0 (default:Judgement)).n))).getD (Int.toNat ((a1.getD k_0 (default:Judgement)).other)) (0:Int)) - (a1.getD k_0 (default:Judgement)).n)))else .inr s_0)
def qo (a1:List Judgement)(a2:Int)(k_0:Nat)(s_0:List Int):Prop:=(a1.length≤aJ→(((((a1.getD k_0 (default:Judgement)).kind==4)&&(decide ((a1.getD k_0 (default:Judgement)).hour≤a2)))&&(!(oZ a1 (a1.getD k_0 (default:Judgement)) a2)))=true→((0≤(a1.getD k_0 (default:Judgement)).farm∧(a1.getD k_0 (default:Judgement)).farm< (s_0.length:Int))∧((0≤(a1.getD k_0 (default:Judgement)).farm∧(a1.getD k_0 (default:Judgement)).farm< (s_0.length:Int))∧((0≤(a1.getD k_0 (default:Judgement)).other∧(a1.getD k_0 (default:Judgement)).other< ((s_0.set (Int.toNat ((a1.getD k_0 (default:Judgement)).farm)) (i64.wrap ((s_0.getD (Int.toNat ((a1.getD k_0 (default:Judgement)).farm)) (0:Int))+(a1.getD k_0 (default:Judgement)).n))).length:Int))∧(0≤(a1.getD k_0 (default:Judgement)).other∧(a1.getD k_0 (default:Judgement)).other< ((s_0.set (Int.toNat ((a1.getD k_0 (default:Judgement)).farm)) (i64.wrap ((s_0.getD (Int.toNat ((a1.getD k_0 (default:Judgement)).farm)) (0:Int))+(a1.getD k_0 (default:Judgement)).n))).length:Int)))))))
def kv (a0:District)(a1:List Judgement)(a2:Int):List Int×Int:=(bif((cW a0 a1) !=0)then([],(cW a0 a1))else(bif(!(aF a2 0 a0.hours))then([],1)else(match ay (jT a1 a2) a1.length 0 (List.replicate (Int.toNat (a0.farms.length:Int)) (0:Int))with| .inl x=>x.elim| .inr s_0=>(s_0,0))))
def qO (a0:District)(a1:List Judgement)(a2:Int):Prop:=((ln a0 a1)∧(((cW a0 a1) !=0)=false→((!(aF a2 0 a0.hours))=false→(a0.farms.length≤aJ→(((a0.farms.length:Int)=(a0.farms.length:Int)∧0≤(a0.farms.length:Int)∧(a0.farms.length:Int)*((8:Nat):Int)≤((dC:Nat):Int))∧((a0.farms.length:Int)≤((aJ:Nat):Int)→okI (jT a1 a2) (qo a1 a2) a1.length 0 (List.replicate (Int.toNat (a0.farms.length:Int)) (0:Int))))))))
@[go_sem] def xP:List SV→Option Con:=(pD .district fun a0=>(pR .judgement fun a1=>(pI fun a2=>(pE (.det (qO a0 a1 a2) (.tup [.nw .int ((kv a0 a1 a2).1),.v (.int .i64 ((kv a0 a1 a2).2))]))))))
theorem CD:FnOk Tryz.prog 15 xP:=by
 have hG:ConsOk Tryz.prog (mkG [(17,fun l=>qN (a7 [.st .district,.sl .judgement] l)),(54,pt),(55,fun l=>ub (a7 [.sl .judgement,.st .judgement,.o] l))] []):=aq (cgc (sW.norm [.st .district,.sl .judgement]) (cgc rV (cgc (wN.norm [.sl .judgement,.st .judgement,.o]) cg0))) cg0;refine yd [(.tmp 6,.int)] mixed ak hG (fn:=Tryz.f15) (c:=aa Tryz.f15) kr kr kr kr (aM fun a0=>(a8 fun a1=>(bt fun a2=>(ai (fun hp=>?_)))));dsimp only[ar]at hp;unfold qO at hp;refine⟨nbl rfl,(fun id st=>bif Nat.beq id 0 then some (LCR (ρ:=Empty) (σ:=(List Int)) 2 [] [0,1] (fun k_0 s_0=>⟨[(1,.rs .judgement a1),(2,.v (.int .i64 a2)),(9,.os 1),(10,.v (.int .i64 (k_0:Int)))],[.dead,.row .int s_0]⟩) (jT a1 a2) (qo a1 a2) a1.length (List.replicate (Int.toNat (a0.farms.length:Int)) (0:Int)) (True) ((·.elim)) ((·.elim)) st)else none),?_,?_⟩
 ·unfold aa Tryz.f15;simp only[ap,true_and,and_true]
  ·refine ig (a1.length≤aJ) mixed ak hG kr (fun _=>rfl) (a1.length:Int) rfl fD (fun hb0 k_0 s_0 hlt0 hq0 hw hc=>⟨L0,ah _,?_⟩) (fun hb0 s_0 hc=>?_) fun hb0 k_0 s_0=>?_
   ·unfold qo at hq0;try simp only[hw,Int.toNat_natCast]at hq0
    exact aY (jl [0,1])
   ·exact aX (jl [0,1])
   ·exact zq7
 ·unfold aa Tryz.f15;try unfold kv
  exact zq1
def dD (i:Int)(d:District):Bool:=(aI i 0 (i64.wrap ((d.farms.length:Int) - 1)))
@[go_sem] def sb:List SV→Option Con:=(pI fun i=>(pX .district fun d=>(pE (.det True (.v (.bool (dD i d)))))))
theorem wO:FnOk Tryz.prog 109 sb:=by
 have hG:ConsOk Tryz.prog (mkG [(52,f7)] []):=aq (cgc g9 cg0) cg0;refine ax [.o] mixed ak hG (fn:=Tryz.f109) (c:=aa Tryz.f109) kr kr kr kr (bt fun i=>(aQ fun d=>(ai (fun hp=>?_))));dsimp only[ar]at hp;refine⟨nbl rfl,L0,ah _,?_⟩
 ·unfold aa Tryz.f109;try unfold dD
  exact zq1
def AQ (a0:District)(a1:Judgement):Unit:=(bif(aw ((((aI a1.kind 1 4)&&(dD a1.farm a0))&&(aI a1.since 0 a1.to))&&(decide (a1.to<a0.hours))) 530)then(bif(aw (((a1.kind==1)&&(a1.n==0)) ||((a1.kind !=1)&&(aI a1.n 1 1073741824))) 530)then(bif(decide (a1.kind<3))then(bif(aw (a1.other==0) 530)then()else default)else(bif(aw ((dD a1.other a0)&&(a1.other !=a1.farm)) 530)then(bif(aw ((a1.kind==4) ||((a0.farms.getD (Int.toNat a1.other) (default:Farm)).reach==(a0.farms.getD (Int.toNat a1.farm) (default:Farm)).reach)) 530)then()else default)else default))else default)else default)
def tM (a0:District)(a1:Judgement):Prop:=((aw ((((aI a1.kind 1 4)&&(dD a1.farm a0))&&(aI a1.since 0 a1.to))&&(decide (a1.to<a0.hours))) 530)=true→((aw (((a1.kind==1)&&(a1.n==0)) ||((a1.kind !=1)&&(aI a1.n 1 1073741824))) 530)=true→((decide (a1.kind<3))=false→((aw ((dD a1.other a0)&&(a1.other !=a1.farm)) 530)=true→(((a1.kind==4)=false→(0≤a1.other∧a1.other< (a0.farms.length:Int)))∧((a1.kind==4)=false→(0≤a1.farm∧a1.farm< (a0.farms.length:Int))))))))
theorem QJ {n:Int}(h: -9223372036854775808≤n):i64.wrap n≤n:=by
 simp only[IntKind.wrap,IntKind.bits,IntKind.signed];simp;omega
theorem QK (b:Bool)(e:Int):aw b e=b:=by cases b <;>rfl
theorem X5 (n lo hi:Int):aI n lo hi=true↔lo≤n∧n≤hi:=by
 unfold aI;simp[Bool.and_eq_true]
theorem ye (d:District)(x:Judgement):tM d x:=by
 intro h1 h2 h3 h4;rw[QK]at h1 h4;simp only[Bool.and_eq_true]at h1 h4;have a1:=h1.1.1.2;have a4:=h4.1;unfold dD at a1 a4;rw[X5]at a1 a4;have:=QJ (n:=(d.farms.length:Int) - 1) (by omega);exact⟨fun _=>⟨by omega,by omega⟩,fun _=>⟨by omega,by omega⟩⟩
def iF (a0:District)(a1:Judgement):Bool:=(bif(aw ((((aI a1.kind 1 4)&&(dD a1.farm a0))&&(aI a1.since 0 a1.to))&&(decide (a1.to<a0.hours))) 530)then(bif(aw (((a1.kind==1)&&(a1.n==0)) ||((a1.kind !=1)&&(aI a1.n 1 1073741824))) 530)then(bif(decide (a1.kind<3))then(bif(aw (a1.other==0) 530)then true else false)else(bif(aw ((dD a1.other a0)&&(a1.other !=a1.farm)) 530)then(bif(aw ((a1.kind==4) ||((a0.farms.getD (Int.toNat a1.other) (default:Farm)).reach==(a0.farms.getD (Int.toNat a1.farm) (default:Farm)).reach)) 530)then true else false)else false))else false)else false)
@[go_sem] def tN:List SV→Option Con:=(pD .district fun a0=>(pD .judgement fun a1=>(pE (.may (iF a0 a1) (.tup []) (.iface 36 (.int .i64 530))))))
theorem yf:FnOk Tryz.prog 59 tN:=by
 have hG:ConsOk Tryz.prog (mkG [(52,f7),(58,jO),(109,sb)] []):=aq (cgc g9 (cgc lW (cgc wO cg0))) cg0;refine ax [] mixed ak hG (fn:=Tryz.f59) (c:=aa Tryz.f59) kr kr kr kr (aM fun a0=>(aM fun a1=>(ai (fun hp=>?_))));dsimp only[ar]at hp;have hp:=ye a0 a1;unfold tM at hp;refine⟨nbl rfl,L0,ah _,?_⟩
 ·unfold aa Tryz.f59;try unfold AQ
  try unfold iF
  exact zq1
def lX (y:Judgement)(x:Judgement)(hour:Int):Bool:=((y.of_==(i64.wrap (x.no+1)))&&(decide (y.hour≤hour)))
@[go_sem] def sd:List SV→Option Con:=(pD .judgement fun y=>(pX .judgement fun x=>(pX .int fun hour=>(pE (.det True (.v (.bool (lX y x hour))))))))
theorem wP:FnOk Tryz.prog 104 sd:=by
 have hG:ConsOk Tryz.prog (mkG [] []):=aq cg0 cg0;refine ax [.o] mixed ak hG (fn:=Tryz.f104) (c:=aa Tryz.f104) kr kr kr kr (aM fun y=>(aQ fun x=>(aQ fun hour=>(ai (fun hp=>?_)))));dsimp only[ar]at hp;refine⟨nbl rfl,L0,ah _,?_⟩
 ·unfold aa Tryz.f104;try unfold lX
  exact zq1
@[go_sem] def bJ (s_:List Judgement)(x:Judgement)(hour:Int)(k_0:Nat)(s_0:Unit):Int⊕Unit:=(bif(lX (s_.getD k_0 (default:Judgement)) x hour)then .inl (k_0:Int)else .inr ())
def dz (s_:List Judgement)(x:Judgement)(hour:Int):Int:=(match ay (bJ s_ x hour) s_.length 0 ()with| .inl x_0_0=>x_0_0| .inr s_0=>(-1))
@[go_sem] def fo:List SV→Option Con:=(pR .judgement fun s_=>(pFn 104 (pX .judgement fun x=>(pX .int fun hour=>(pE ((pE (.det True (.v (.int .i64 (dz s_ x hour)))))))))))
theorem i9:FnOk Tryz.prog 147 fo:=by
 have hG:ConsOk Tryz.prog (mkG [(104,sd)] []):=aq (cgc wP cg0) cg0;refine ax [.o] mixed ak hG (fn:=Tryz.f147) (c:=aa Tryz.f147) kr kr kr kr (a8 fun s_=>(bF (aQ fun x=>(aQ fun hour=>(ai ((ai (fun hp=>?_))))))));dsimp only[ar]at hp;refine⟨nbl rfl,(fun id st=>bif Nat.beq id 0 then some (LCR (ρ:=Int) (σ:=Unit) 0 [] [] (fun k_0 s_0=>⟨[(0,.rs .judgement s_),(1,.fn 104 [] [.ep (cellsOf .judgement x) 0,.ep [.v (.int .i64 hour)] 0]),(7,.v (.int .i64 (s_.length:Int))),(8,.v (.int .i64 (k_0:Int)))],[]⟩) (bJ s_ x hour) pT s_.length () (s_.length≤aJ) (fun _=>.ret) (fun x_0_0=>⟨[(4,.v (.int .i64 x_0_0))],[]⟩) st)else none),?_,?_⟩
 ·unfold aa Tryz.f147;simp only[ap,true_and,and_true]
  ·refine bf mixed ak hG kr (fun _=>rfl) (s_.length:Int) rfl fD (fun hb0 k_0 s_0 hlt0 _ hw hc=>⟨L0,ah _,?_⟩) (fun hb0 s_0 hc=>?_)
   ·exact aY (jl [])
   ·exact aX (jl [])
 ·unfold aa Tryz.f147;try unfold dz
  exact zq1
def cX (s_:List Judgement)(x:Judgement)(hour:Int):Bool:=(decide ((dz s_ x hour)≥0))
@[go_sem] def eV:List SV→Option Con:=(pR .judgement fun s_=>(pFn 104 (pX .judgement fun x=>(pX .int fun hour=>(pE ((pE (.det True (.v (.bool (cX s_ x hour)))))))))))
theorem iG:FnOk Tryz.prog 103 eV:=by
 have hG:ConsOk Tryz.prog (mkG [(147,fun l=>fo (a7 [.sl .judgement,.o] l))] []):=aq (cgc (i9.norm [.sl .judgement,.o]) cg0) cg0;refine ax [.o] mixed ak hG (fn:=Tryz.f103) (c:=aa Tryz.f103) kr kr kr kr (a8 fun s_=>(bF (aQ fun x=>(aQ fun hour=>(ai ((ai (fun hp=>?_))))))));dsimp only[ar]at hp;refine⟨nbl rfl,L0,ah _,?_⟩
 ·unfold aa Tryz.f103;try unfold cX
  exact zq1
def eT (j:List Judgement)(x:Judgement)(hour:Int):Bool:=(cX j x hour)
@[go_sem] def lY:List SV→Option Con:=(pR .judgement fun j=>(pD .judgement fun x=>(pI fun hour=>(pE (.det True (.v (.bool (eT j x hour))))))))
theorem sX:FnOk Tryz.prog 53 lY:=by
 have hG:ConsOk Tryz.prog (mkG [(103,fun l=>eV (a7 [.sl .judgement,.o] l))] []):=aq (cgc (iG.norm [.sl .judgement,.o]) cg0) cg0;refine ax [.o] mixed ak hG (fn:=Tryz.f53) (c:=aa Tryz.f53) kr kr kr kr (a8 fun j=>(aM fun x=>(bt fun hour=>(ai (fun hp=>?_)))));dsimp only[ar]at hp;refine⟨nbl rfl,L0,ah _,?_⟩
 ·unfold aa Tryz.f53;try unfold eT
  exact zq1
@[go_sem] def dX (a0:District)(a1:List Judgement)(k_0:Nat)(s_0:List (Int×Bool)):Unit⊕(List (Int×Bool)):=(bif(aw ((aI ((a1.getD k_0 (default:Judgement)).no) 0 1048576)&&(aI ((a1.getD k_0 (default:Judgement)).hour) 0 a0.hours)) 530)then(bif(aw (((k_0:Int) ==0) ||((decide ((a1.getD k_0 (default:Judgement)).no > (a1.getD (Int.toNat (i64.wrap ((k_0:Int) - 1))) (default:Judgement)).no))&&(decide ((a1.getD k_0 (default:Judgement)).hour≥(a1.getD (Int.toNat (i64.wrap ((k_0:Int) - 1))) (default:Judgement)).hour)))) 530)then(bif((a1.getD k_0 (default:Judgement)).of_==0)then(bif(iF a0 (a1.getD k_0 (default:Judgement)))then .inr (lR .int .bool s_0 (i64.wrap ((a1.getD k_0 (default:Judgement)).no+1)) true)else .inl ())else(bif(aw ((fZ .int .bool s_0 ((a1.getD k_0 (default:Judgement)).of_))&&(((a1.getD k_0 (default:Judgement)).no==(a1.getD k_0 (default:Judgement)).no)&&(((a1.getD k_0 (default:Judgement)).hour==(a1.getD k_0 (default:Judgement)).hour)&&(((a1.getD k_0 (default:Judgement)).kind==0)&&(((a1.getD k_0 (default:Judgement)).farm==0)&&(((a1.getD k_0 (default:Judgement)).other==0)&&(((a1.getD k_0 (default:Judgement)).since==0)&&(((a1.getD k_0 (default:Judgement)).to==0)&&(((a1.getD k_0 (default:Judgement)).n==0)&&((a1.getD k_0 (default:Judgement)).of_==(a1.getD k_0 (default:Judgement)).of_)))))))))) 530)then .inr (yn .int .bool s_0 ((a1.getD k_0 (default:Judgement)).of_))else .inl ()))else .inl ())else .inl ())
def mB (a0:District)(a1:List Judgement)(k_0:Nat)(s_0:List (Int×Bool)):Prop:=((aw ((aI ((a1.getD k_0 (default:Judgement)).no) 0 1048576)&&(aI ((a1.getD k_0 (default:Judgement)).hour) 0 a0.hours)) 530)=true→((((k_0:Int) ==0)=false→(0≤(i64.wrap ((k_0:Int) - 1))∧(i64.wrap ((k_0:Int) - 1)) < (a1.length:Int)))∧(((k_0:Int) ==0)=false→((decide ((a1.getD k_0 (default:Judgement)).no > (a1.getD (Int.toNat (i64.wrap ((k_0:Int) - 1))) (default:Judgement)).no))=true→(0≤(i64.wrap ((k_0:Int) - 1))∧(i64.wrap ((k_0:Int) - 1)) < (a1.length:Int))))))
def aS (a0:District)(a1:List Judgement):Int:=(bif((bQ a0) !=0)then(bQ a0)else(bif(aw (decide ((a1.length:Int)≤64)) 2)then(match ay (dX a0 a1) a1.length 0 ([])with| .inl x_0_0=>530| .inr s_0=>0)else 2))
def f9 (a0:District)(a1:List Judgement):Prop:=(((bQ a0) !=0)=false→(a1.length≤aJ→((aw (decide ((a1.length:Int)≤64)) 2)=true→(a1.length≤aJ→okI (dX a0 a1) (mB a0 a1) a1.length 0 ([])))))
@[go_sem] def je:List SV→Option Con:=(pD .district fun a0=>(pR .judgement fun a1=>(pE (.det (f9 a0 a1) (.v (.int .i64 (aS a0 a1)))))))
theorem zq86 {p:Prop}(h:p:=by simp only[go_sem,Nat.reduceBEq,Nat.reduceLeDiff,Nat.reduceLT,decide_true,Nat.reduceAdd,Nat.reduceSub,Nat.reduceMul,Int.reduceLE,Int.reduceLT,Int.reduceToNat,Int.reduceNeg,reduceCtorEq,qf,oG,RCJ];all_goals exact cl):p:=h
theorem kG:FnOk Tryz.prog 16 je:=by
 have hG:ConsOk Tryz.prog (mkG [(52,f7),(57,fun l=>sO (a7 [.st .district] l)),(58,jO),(59,fun l=>tN (a7 [.st .district,.st .judgement] l))] []):=aq (cgc g9 (cgc (vH.norm [.st .district]) (cgc lW (cgc (yf.norm [.st .district,.st .judgement]) cg0)))) cg0;refine JV E8 [.o] mixed ak hG (fn:=Tryz.f16) (c0:=qf (aa Tryz.f16)) (c1:=oG (oG (aa Tryz.f16))) (i1:=PI (qf (oG (aa Tryz.f16)))) (o1:=M0 0 (qf (oG (aa Tryz.f16)))) (q:=4) (tys:= #[104]) kr kr kr (by refine⟨?_,?_,?_⟩ <;>kernel_rfl) kr kr (aM fun a0=>(a8 fun a1=>(ai (fun hp=>?_))));dsimp only[ar]at hp;unfold f9 at hp;refine⟨nbl rfl,L0,(fun id st=>bif Nat.beq id 0 then some (LCR (ρ:=Unit) (σ:=(List (Int×Bool))) 3 [] [0,1,2] (fun k_0 s_0=>⟨[(1,.rs .judgement a1),(2,.ptr 0 0),(4,.ptr 1 0),(5,.os 2),(18,.rs .judgement a1),(19,.v (.int .i64 (a1.length:Int))),(20,.v (.int .i64 (k_0:Int)))],[.cells (cellsOf .district a0),.cells [.v (.int .i64 (bQ a0))],.mp .int .bool s_0 none]⟩) (dX a0 a1) (mB a0 a1) a1.length ([]) (a1.length≤aJ) (fun _=>.pan (.iface 36 (.int .i64 530))) (fun x_0_0=>⟨[(4,.ptr 1 0)],[.dead,.cells [.v (.int .i64 (bQ a0))],.dead]⟩) st)else none),1,?_,?_,?_⟩
 ·unfold aa Tryz.f16;simp only[qf,ap,and_self,true_and,and_true]
 ·unfold aa Tryz.f16;simp only[oG];simp only[ap,true_and,and_true]
  ·refine bf mixed ak hG kr (fun _=>rfl) (a1.length:Int) rfl fD (fun hb0 k_0 s_0 hlt0 hq0 hw hc=>⟨L0,ah _,?_⟩) (fun hb0 s_0 hc=>?_)
   ·unfold mB at hq0;try simp only[hw,Int.toNat_natCast]at hq0
    exact aY (jl [0,1,2])
   ·exact aX (jl [0,1,2])
 ·unfold aa Tryz.f16;try unfold aS
  exact zq86
@[go_sem] def gE (a1:List Judgement)(a2:Int)(k_0:Nat)(s_0:List Int):Empty⊕(List Int):=(bif((((a1.getD k_0 (default:Judgement)).kind==4)&&(decide ((a1.getD k_0 (default:Judgement)).hour≤a2)))&&(!(eT a1 (a1.getD k_0 (default:Judgement)) a2)))then .inr ((s_0.set (Int.toNat ((a1.getD k_0 (default:Judgement)).farm)) (i64.wrap ((s_0.getD (Int.toNat ((a1.getD k_0 (default:Judgement)).farm)) (0:Int))+(a1.getD k_0 (default:Judgement)).n))).set (Int.toNat ((a1.getD k_0 (default:Judgement)).other)) (i64.wrap (((s_0.set (Int.toNat ((a1.getD k_0 (default:Judgement)).farm)) (i64.wrap ((s_0.getD (Int.toNat ((a1.getD k_0 (default:Judgement)).farm)) (0:Int))+(a1.getD k_0 (default:Judgement)).n))).getD (Int.toNat ((a1.getD k_0 (default:Judgement)).other)) (0:Int)) - (a1.getD k_0 (default:Judgement)).n)))else .inr s_0)
def mC (a1:List Judgement)(a2:Int)(k_0:Nat)(s_0:List Int):Prop:=(((((a1.getD k_0 (default:Judgement)).kind==4)&&(decide ((a1.getD k_0 (default:Judgement)).hour≤a2)))&&(!(eT a1 (a1.getD k_0 (default:Judgement)) a2)))=true→((0≤(a1.getD k_0 (default:Judgement)).farm∧(a1.getD k_0 (default:Judgement)).farm< (s_0.length:Int))∧((0≤(a1.getD k_0 (default:Judgement)).farm∧(a1.getD k_0 (default:Judgement)).farm< (s_0.length:Int))∧((0≤(a1.getD k_0 (default:Judgement)).other∧(a1.getD k_0 (default:Judgement)).other< ((s_0.set (Int.toNat ((a1.getD k_0 (default:Judgement)).farm)) (i64.wrap ((s_0.getD (Int.toNat ((a1.getD k_0 (default:Judgement)).farm)) (0:Int))+(a1.getD k_0 (default:Judgement)).n))).length:Int))∧(0≤(a1.getD k_0 (default:Judgement)).other∧(a1.getD k_0 (default:Judgement)).other< ((s_0.set (Int.toNat ((a1.getD k_0 (default:Judgement)).farm)) (i64.wrap ((s_0.getD (Int.toNat ((a1.getD k_0 (default:Judgement)).farm)) (0:Int))+(a1.getD k_0 (default:Judgement)).n))).length:Int))))))
def cB (a0:District)(a1:List Judgement)(a2:Int):List Int×Int:=(bif((aS a0 a1) !=0)then([],(aS a0 a1))else(bif(!(aI a2 0 a0.hours))then([],1)else(match ay (gE a1 a2) a1.length 0 (List.replicate (Int.toNat (a0.farms.length:Int)) (0:Int))with| .inl x=>x.elim| .inr s_0=>(s_0,0))))
def gZ (a0:District)(a1:List Judgement)(a2:Int):Prop:=((f9 a0 a1)∧(((aS a0 a1) !=0)=false→((!(aI a2 0 a0.hours))=false→(a0.farms.length≤aJ→(((a0.farms.length:Int)=(a0.farms.length:Int)∧0≤(a0.farms.length:Int)∧(a0.farms.length:Int)*((8:Nat):Int)≤((dC:Nat):Int))∧((a0.farms.length:Int)≤((aJ:Nat):Int)→(a1.length≤aJ→okI (gE a1 a2) (mC a1 a2) a1.length 0 (List.replicate (Int.toNat (a0.farms.length:Int)) (0:Int)))))))))
@[go_sem] def pw:List SV→Option Con:=(pD .district fun a0=>(pR .judgement fun a1=>(pI fun a2=>(pE (.det (gZ a0 a1 a2) (.tup [.nw .int ((cB a0 a1 a2).1),.v (.int .i64 ((cB a0 a1 a2).2))]))))))
theorem sY:FnOk Tryz.prog 14 pw:=by
 have hG:ConsOk Tryz.prog (mkG [(16,fun l=>je (a7 [.st .district,.sl .judgement] l)),(52,f7),(53,fun l=>lY (a7 [.sl .judgement,.st .judgement,.o] l))] []):=aq (cgc (kG.norm [.st .district,.sl .judgement]) (cgc g9 (cgc (sX.norm [.sl .judgement,.st .judgement,.o]) cg0))) cg0;refine yd [(.tmp 6,.int)] mixed ak hG (fn:=Tryz.f14) (c:=aa Tryz.f14) kr kr kr kr (aM fun a0=>(a8 fun a1=>(bt fun a2=>(ai (fun hp=>?_)))));dsimp only[ar]at hp;unfold gZ at hp;refine⟨nbl rfl,(fun id st=>bif Nat.beq id 0 then some (LCR (ρ:=Empty) (σ:=(List Int)) 2 [] [0,1] (fun k_0 s_0=>⟨[(1,.rs .judgement a1),(2,.v (.int .i64 a2)),(6,.os 1),(25,.rs .judgement a1),(26,.v (.int .i64 (a1.length:Int))),(27,.v (.int .i64 (k_0:Int)))],[.dead,.row .int s_0]⟩) (gE a1 a2) (mC a1 a2) a1.length (List.replicate (Int.toNat (a0.farms.length:Int)) (0:Int)) (a1.length≤aJ) ((·.elim)) ((·.elim)) st)else none),?_,?_⟩
 ·unfold aa Tryz.f14;simp only[ap,true_and,and_true]
  ·refine bf mixed ak hG kr (fun _=>rfl) (a1.length:Int) rfl fD (fun hb0 k_0 s_0 hlt0 hq0 hw hc=>⟨L0,ah _,?_⟩) (fun hb0 s_0 hc=>?_)
   ·unfold mC at hq0;try simp only[hw,Int.toNat_natCast]at hq0
    exact aY (jl [0,1])
   ·exact aX (jl [0,1])
 ·unfold aa Tryz.f14;try unfold cB
  exact zq1
theorem Fb (b:Bool)(e:Int):aw b e=b:=by cases b <;>rfl
theorem RO (n lo hi:Int):aI n lo hi=(decide (lo≤n)&&decide (n≤hi)):=rfl
theorem GS (n lo hi:Int):aF n lo hi=(decide (lo≤n)&&decide (n≤hi)):=rfl
theorem ID (d:District)(x:Judgement):iF d x=i5 d x:=by
 unfold iF i5;simp only[Fb,RO,GS,dD];generalize ((d.farms.getD (Int.toNat x.other) (default:Farm)).reach==(d.farms.getD (Int.toNat x.farm) (default:Farm)).reach)=R;generalize i64.wrap ((d.farms.length:Int) - 1)=m;rw[Bool.eq_iff_iff];cases R <;>simp[Bool.cond_eq_ite] <;>grind
structure JInv (b:List Judgement)(s:List (Int×Bool)):Prop where
 nd:(sS s).Nodup
 val:∀ z:Int,fZ .int .bool s z=true↔(∃ y∈b,y.of_=0∧y.no+1=z)∧¬ ∃ y∈b,y.of_=z
 no:∀ y∈b,0≤y.no∧y.no≤1048576
 of:∀ y∈b,y.of_≠0→∃ z∈b,y.of_=z.no+1
 last:∀ y∈b,y.no≤(b.getD (b.length - 1) default).no
theorem NI:JInv [] []:=⟨List.nodup_nil,fun z=>⟨fun h=>(by cases h),fun⟨⟨y,hy,_⟩,_⟩ =>(by cases hy)⟩,fun y hy=>(by cases hy),fun y hy=>(by cases hy),fun y hy=>(by cases hy)⟩
theorem yg (b:List Judgement)(x:Judgement):∀ (n k:Nat) (s:Bool),k+n=b.length→
  ay (ow b x) n k s=bif(b.drop k).any (fun y=>y.of_==x.of_)then .inl ()else .inr (s||(b.drop k).any (fun y=>y.of_==0&&y.no==i64.wrap (x.of_ - 1)))
 |0,k,s,h=>by
  have:b.drop k=[]:=List.drop_eq_nil_of_le (by omega);simp[this,ay]
 |n+1,k,s,h=>by
  have hk:k<b.length:=by omega
  rw[List.drop_eq_getElem_cons hk];simp only[ay,ow,qM _ _ hk,List.any_cons];cases h1:(b[k].of_==x.of_) <;>cases h2:(b[k].of_==0&&b[k].no==i64.wrap (x.of_ - 1)) <;>simp only[cond_true,cond_false,Bool.true_or,Bool.false_or,Bool.or_true,Bool.or_false]
  ·rw[yg b x n (k+1) s (by omega)]
  ·rw[yg b x n (k+1) true (by omega)];simp
theorem CE (b:List Judgement)(x:Judgement)(h0:0<x.of_)(h1:x.of_<9223372036854775808):i6 b x=true↔
  (x.kind=0∧x.farm=0∧x.other=0∧x.since=0∧x.to=0∧x.n=0)∧(∃ y∈b,y.of_=0∧y.no+1=x.of_)∧¬ ∃ y∈b,y.of_=x.of_:=by
 unfold i6;rw[yg b x b.length 0 false (by omega),List.drop_zero,gG (by omega) (by omega)];have hA:(b.any fun y=>y.of_==x.of_)=true↔∃ y∈b,y.of_=x.of_:=by simp
 have hB:(b.any fun y=>y.of_==0&&y.no==x.of_ - 1)=true↔∃ y∈b,y.of_=0∧y.no+1=x.of_:=by
  simp only[List.any_eq_true,Bool.and_eq_true,beq_iff_eq];exact⟨fun⟨y,h1,h2,h3⟩ =>⟨y,h1,h2,by omega⟩,fun⟨y,h1,h2,h3⟩ =>⟨y,h1,h2,by omega⟩⟩
 rw[←hA,←hB];cases(b.any fun y=>y.of_==x.of_) <;>cases(b.any fun y=>y.of_==0&&y.no==x.of_ - 1) <;>simp <;>grind
theorem zU {α:Type}(l:List α)(d:α){k:Nat}(h0:0<k)(h:k≤l.length):(l.take k).getD ((l.take k).length - 1) d=l.getD (k - 1) d:=by
 rw[List.length_take,Nat.min_eq_left h,List.getD_eq_getElem?_getD,List.getElem?_take_of_lt (by omega),←List.getD_eq_getElem?_getD]
theorem Fc (d:District)(j:List Judgement)(hj:∀ y∈j,-9223372036854775808≤y.of_∧y.of_<9223372036854775808)(hl:j.length≤64){k:Nat}(hk:k<j.length){s:List (Int×Bool)}(hs:JInv (j.take k) s):
  (gN d ((j.take k).drop 0) (j.getD k default)=true∧∃ s',dX d j k s=.inr s'∧JInv (j.take (k+1)) s')∨(gN d ((j.take k).drop 0) (j.getD k default)=false∧dX d j k s=.inl ()):=by
 have hlen:(j.take k).length=k:=by rw[List.length_take];omega
 rw[List.drop_zero];have hx:j.getD k default∈j:=by rw[qM _ _ hk];exact List.getElem_mem _
 have hof:=hj _ hx;have hT:j.take (k+1)=j.take k++[j.getD k default]:=by rw[List.take_add_one,qM _ _ hk,List.getElem?_eq_getElem hk];rfl
 have hlast:0<k→(j.take k).getD (Int.toNat (i64.wrap (((j.take k).length:Int) - 1))) default=j.getD (k - 1) default∧j.getD (Int.toNat (i64.wrap ((k:Int) - 1))) default=j.getD (k - 1) default:=fun h0=>by
  rw[hlen,gG (by omega) (by omega),show((k:Int) - 1).toNat=k - 1 by omega];refine⟨?_,rfl⟩;have:=zU j default h0 (by omega)
  rwa[hlen]at this
 generalize hxe:j.getD k default=x at *;have hx1:j.getD k (default:Judgement)=x:=hxe;generalize hpe:j.getD (k - 1) (default:Judgement)=p at *;have hbk:∀ y∈j.take k,0<k∧y.no≤p.no:=fun y hy=>by
  have h0:0<k:=by
   rcases Nat.eq_zero_or_pos k with h|h
   ·subst h;cases hy
   ·exact h
  have h1:=hs.last y hy;have h2:=zU j (default:Judgement) h0 (by omega:k≤j.length);rw[h2,hpe]at h1;exact⟨h0,h1⟩
 have eB:((k:Int) ==0||(decide (x.no > (j.getD (Int.toNat (i64.wrap ((k:Int) - 1))) (default:Judgement)).no)&&decide (x.hour≥(j.getD (Int.toNat (i64.wrap ((k:Int) - 1))) (default:Judgement)).hour)))=decide (k=0∨p.no<x.no∧p.hour≤x.hour):=by
  by_cases h0:k=0
  ·subst h0;simp
  ·rw[(hlast (by omega)).2];rw[Bool.eq_iff_iff];simp[h0]
 have eR:(decide (((j.take k).length:Int) > 0)&&(decide (x.no≤((j.take k).getD (Int.toNat (i64.wrap (((j.take k).length:Int) - 1))) (default:Judgement)).no) ||decide (x.hour< ((j.take k).getD (Int.toNat (i64.wrap (((j.take k).length:Int) - 1))) (default:Judgement)).hour)))= !decide (k=0∨p.no<x.no∧p.hour≤x.hour):=by
  by_cases h0:k=0
  ·subst h0;simp
  ·rw[(hlast (by omega)).1,hlen];rw[Bool.eq_iff_iff];simp[h0];omega
 have e1:dX d j k s=bif(aF x.no 0 1048576&&aF x.hour 0 d.hours)&&decide (k=0∨p.no<x.no∧p.hour≤x.hour)then(bif x.of_==0 then(bif i5 d x then .inr (lR .int .bool s (i64.wrap (x.no+1)) true)else .inl ())else(bif fZ .int .bool s x.of_&&decide (x.kind=0∧x.farm=0∧x.other=0∧x.since=0∧x.to=0∧x.n=0)then .inr (yn .int .bool s x.of_)else .inl ()))else .inl ():=by
  unfold dX;simp only[Fb,hx1,eB,ID];rw[show aI x.no 0 1048576=aF x.no 0 1048576 from rfl,show aI x.hour 0 d.hours=aF x.hour 0 d.hours from rfl];have eZ:(fZ .int .bool s x.of_&&(x.no==x.no&&(x.hour==x.hour&&(x.kind==0&&(x.farm==0&&(x.other==0&&(x.since==0&&(x.to==0&&(x.n==0&&x.of_==x.of_)))))))))=(fZ .int .bool s x.of_&&decide (x.kind=0∧x.farm=0∧x.other=0∧x.since=0∧x.to=0∧x.n=0)):=by
   congr 1
   rw[Bool.eq_iff_iff];simp
  rw[eZ];cases aF x.no 0 1048576&&aF x.hour 0 d.hours <;>cases decide (k=0∨p.no<x.no∧p.hour≤x.hour) <;>rfl
 have e2:gN d (j.take k) x=bif(aF x.no 0 1048576&&aF x.hour 0 d.hours)&&decide (k=0∨p.no<x.no∧p.hour≤x.hour)then(bif x.of_==0 then i5 d x else(decide (x.of_ > 0)&&i6 (j.take k) x))else false:=by
  unfold gN;rw[eR];cases aF x.no 0 1048576 <;>cases aF x.hour 0 d.hours <;>cases decide (k=0∨p.no<x.no∧p.hour≤x.hour) <;>rfl
 rw[e1,e2];cases hAB:(aF x.no 0 1048576&&aF x.hour 0 d.hours)&&decide (k=0∨p.no<x.no∧p.hour≤x.hour)with
 |false=>exact .inr ⟨rfl,rfl⟩
 |true=>
  simp only[Bool.and_eq_true,GS,decide_eq_true_eq]at hAB;obtain⟨⟨⟨n1,n2⟩,_⟩,hB⟩:=hAB;have hno:∀ y∈j.take k,y.no<x.no:=fun y hy=>by
   obtain⟨h0,h1⟩:=hbk y hy;rcases hB with hB|hB <;>omega
  simp only[cond_true];have hlst:∀ y∈j.take (k+1),y.no≤((j.take (k+1)).getD ((j.take (k+1)).length - 1) default).no:=fun y hy=>by
   rw[zU j default (by omega) (by omega:k+1≤j.length),Nat.add_sub_cancel,hx1];rw[hT]at hy;rcases List.mem_append.1 hy with hy|hy
   ·exact Int.le_of_lt (hno y hy)
   ·rw[List.mem_singleton.1 hy];exact Int.le_refl _
  have hnn:∀ y∈j.take (k+1),0≤y.no∧y.no≤1048576:=fun y hy=>by
   rw[hT]at hy;rcases List.mem_append.1 hy with hy|hy
   ·exact hs.no y hy
   ·rw[List.mem_singleton.1 hy];exact⟨n1,n2⟩
  cases ho:x.of_==0 with
  |true=>
   have ho':x.of_=0:=eq_of_beq ho;simp only[cond_true];cases hv:i5 d x with
   |false=>exact .inr ⟨rfl,rfl⟩
   |true=>
    refine .inl ⟨rfl,_,rfl,(D2 _ _ _ hs.nd).1,fun z=>?_,hnn,fun y hy h0=>?_,hlst⟩
    ·rw[Lc,gG (by omega) (by omega),hT];by_cases hz:z=x.no+1
     ·subst hz;rw[if_pos rfl];refine⟨fun _=>⟨⟨x,by simp,ho',rfl⟩,fun⟨y,hy,h1⟩ =>?_⟩,fun _=>rfl⟩;rcases List.mem_append.1 hy with hy|hy
      ·obtain⟨q,hq,h2⟩:=hs.of y hy (by omega);have:=hno q hq;omega
      ·rw[List.mem_singleton.1 hy]at h1;omega
     ·rw[if_neg hz,hs.val];constructor
      ·rintro⟨⟨y,hy,h1,h2⟩,h3⟩;refine⟨⟨y,List.mem_append_left _ hy,h1,h2⟩,fun⟨q,hq,h4⟩ =>?_⟩;rcases List.mem_append.1 hq with hq|hq
       ·exact h3 ⟨q,hq,h4⟩
       ·rw[List.mem_singleton.1 hq]at h4;have:=(hs.no y hy).1;omega
      ·rintro⟨⟨y,hy,h1,h2⟩,h3⟩;refine⟨?_,fun⟨q,hq,h4⟩ =>h3 ⟨q,List.mem_append_left _ hq,h4⟩⟩;rcases List.mem_append.1 hy with hy|hy
       ·exact⟨y,hy,h1,h2⟩
       ·rw[List.mem_singleton.1 hy]at h2;exact absurd h2.symm hz
    ·rw[hT]at hy ⊢;rcases List.mem_append.1 hy with hy|hy
     ·obtain⟨q,hq,h2⟩:=hs.of y hy h0;exact⟨q,List.mem_append_left _ hq,h2⟩
     ·rw[List.mem_singleton.1 hy]at h0;exact absurd ho' h0
  |false=>
   have ho':x.of_≠0:=fun e=>by rw[e]at ho;cases ho
   simp only[cond_false];have hC:(decide (x.of_ > 0)&&i6 (j.take k) x)=(fZ .int .bool s x.of_&&decide (x.kind=0∧x.farm=0∧x.other=0∧x.since=0∧x.to=0∧x.n=0)):=by
    rw[Bool.eq_iff_iff];simp only[Bool.and_eq_true,decide_eq_true_eq];constructor
    ·rintro⟨h1,h2⟩;obtain⟨h3,h4⟩:=(CE _ x h1 hof.2).1 h2;exact⟨(hs.val _).2 h4,h3⟩
    ·rintro⟨h1,h2⟩;have h3:=(hs.val _).1 h1;have h4:0<x.of_:=by
      obtain⟨⟨y,hy,_,h5⟩,_⟩:=h3;have:=(hs.no y hy).1;omega
     exact⟨h4,(CE _ x h4 hof.2).2 ⟨h2,h3⟩⟩
   rw[hC];cases hv:(fZ .int .bool s x.of_&&decide (x.kind=0∧x.farm=0∧x.other=0∧x.since=0∧x.to=0∧x.n=0))with
   |false=>exact .inr ⟨rfl,rfl⟩
   |true=>
    simp only[Bool.and_eq_true]at hv;have h3:=(hs.val _).1 hv.1;refine .inl ⟨rfl,_,rfl,(zR _ _ hs.nd).1,fun z=>?_,hnn,fun y hy h0=>?_,hlst⟩
    ·rw[Ld _ hs.nd,hT];by_cases hz:z=x.of_
     ·rw[if_pos hz];exact⟨fun h=>(by cases h),fun h=>absurd ⟨x,by simp,hz.symm⟩ h.2⟩
     ·rw[if_neg hz,hs.val];constructor
      ·rintro⟨⟨y,hy,h1,h2⟩,h4⟩;refine⟨⟨y,List.mem_append_left _ hy,h1,h2⟩,fun⟨q,hq,h5⟩ =>?_⟩;rcases List.mem_append.1 hq with hq|hq
       ·exact h4 ⟨q,hq,h5⟩
       ·rw[List.mem_singleton.1 hq]at h5;exact hz h5.symm
      ·rintro⟨⟨y,hy,h1,h2⟩,h4⟩;refine⟨?_,fun⟨q,hq,h5⟩ =>h4 ⟨q,List.mem_append_left _ hq,h5⟩⟩;rcases List.mem_append.1 hy with hy|hy
       ·exact⟨y,hy,h1,h2⟩
       ·rw[List.mem_singleton.1 hy]at h1;exact absurd h1 ho'
    ·rw[hT]at hy ⊢;rcases List.mem_append.1 hy with hy|hy
     ·obtain⟨q,hq,h2⟩:=hs.of y hy h0;exact⟨q,List.mem_append_left _ hq,h2⟩
     ·rw[List.mem_singleton.1 hy];obtain⟨⟨q,hq,_,h2⟩,_⟩:=h3;exact⟨q,List.mem_append_left _ hq,h2.symm⟩
theorem Aw (d:District)(j:List Judgement)(hj:∀ y∈j,-9223372036854775808≤y.of_∧y.of_<9223372036854775808)(hl:j.length≤64):∀ (n k:Nat) (s:List (Int×Bool)),k+n=j.length→JInv (j.take k) s→
  (∃ s',ay (dX d j) n k s=.inr s'∧ay (gO d j) n k ()=.inr ())∨(ay (dX d j) n k s=.inl ()∧ay (gO d j) n k ()=.inl ())
 |0,k,s,h,hs=>.inl ⟨s,rfl,rfl⟩
 |n+1,k,s,h,hs=>by
  simp only[ay,gO];rcases Fc d j hj hl (by omega:k<j.length) hs with⟨h1,s',h2,h3⟩ | ⟨h1,h2⟩
  ·rw[h1,h2];simp only[Bool.not_true,cond_false];exact Aw d j hj hl n (k+1) s' (by omega) h3
  ·rw[h1,h2];simp only[Bool.not_false,cond_true];exact .inr ⟨by simp,by simp⟩
theorem tO (d:District)(j:List Judgement)(hj:∀ y∈j,-9223372036854775808≤y.of_∧y.of_<9223372036854775808):aS d j=cW d j:=by
 unfold aS cW;rw[wL,Fb];cases hc:(eJ d !=0)with
 |true=>rfl
 |false=>
  simp only[cond_false];by_cases hl:j.length≤64
  ·rw[decide_eq_true (by omega:(j.length:Int)≤64),decide_eq_false (by omega:¬ (j.length:Int) > 64)];simp only[cond_true,cond_false];rcases Aw d j hj hl j.length 0 [] (by omega) NI with⟨s',h1,h2⟩ | ⟨h1,h2⟩ <;>rw[h1,h2]
  ·rw[decide_eq_false (by omega:¬ (j.length:Int)≤64),decide_eq_true (by omega:(j.length:Int) > 64)];rfl
abbrev JR (j:List Judgement):Prop:= ∀ y∈j,-9223372036854775808≤y.of_∧y.of_<9223372036854775808
theorem D9 (j:List Judgement)(x:Judgement)(hour:Int):∀ (n i:Nat),
  (decide ((match ay (bJ j x hour) n i ()with| .inl x_0_0=>x_0_0| .inr s_0=>(-1))≥(0:Int)))=(match ay (pu j x hour) n i ()with| .inl x_0_0=>true| .inr s_0=>false)
 |0,i=>rfl
 |n+1,i=>by
  simp only[ay,bJ,pu,lX];rcases Bool.eq_false_or_eq_true (((j.getD i (default:Judgement)).of_==i64.wrap (x.no+1))&&decide ((j.getD i (default:Judgement)).hour≤hour))with h|h
  ·simp only[h,cond_true];exact decide_eq_true (Int.natCast_nonneg i)
  ·simp only[h,cond_false];exact D9 j x hour n (i+1)
theorem GU (j:List Judgement)(x:Judgement)(hour:Int):eT j x hour=oZ j x hour:=D9 j x hour j.length 0
theorem Lj (j:List Judgement)(h:Int):gE j h=jT j h:=by
 funext k s
 unfold gE jT;rw[GU]
theorem NJ (d:District)(j:List Judgement)(h:Int)(hj:JR j):cB d j h=kv d j h:=by
 unfold cB kv;rw[tO d j hj,Lj];rfl
theorem zV {d:District}{j:List Judgement}(h:cW d j=0):eJ d=0∧j.length≤64∧∀ k,k<j.length→gN d (j.take k) (j.getD k default)=true:=by
 unfold cW at h;cases hc:(eJ d !=0)with
 |true=>
  rw[hc]at h;simp only[cond_true]at h;rw[h]at hc;cases hc
 |false=>
  rw[hc]at h;simp only[cond_false]at h;have hc':eJ d=0:=by simpa using hc
  by_cases hl:j.length≤64
  ·rw[decide_eq_false (by omega:¬ (j.length:Int) > 64)]at h;simp only[cond_false]at h;refine⟨hc',hl,fun k hk=>?_⟩;cases hr:ay (gO d j) j.length 0 ()with
   |inl y=>rw[hr]at h;cases h
   |inr s=>
    have:=oY hr k (by omega) (by omega);simp only[gO,List.drop_zero]at this;cases hq:gN d (j.take k) (j.getD k default)with
    |true=>rfl
    |false=>rw[hq]at this;cases this
  ·rw[decide_eq_true (by omega:(j.length:Int) > 64)]at h;cases h
structure JOk (d:District)(x:Judgement):Prop where
 no:0≤x.no∧x.no≤1048576
 end_:x.of_≠0→x.kind=0
 kind:x.of_=0→1≤x.kind∧x.kind≤4
 farm:x.of_=0→0≤x.farm∧x.farm< (d.farms.length:Int)
 none:x.kind=1→x.n=0
 n:x.kind≠1→x.of_=0→1≤x.n∧x.n≤1073741824
 other:3≤x.kind→0≤x.other∧x.other< (d.farms.length:Int)∧x.other≠x.farm
theorem jok {d:District}{b:List Judgement}{x:Judgement}(hf:d.farms.length≤600)(h:gN d b x=true):JOk d x:=by
 unfold gN at h;cases h1:((!(aF x.no 0 1048576)) ||(!(aF x.hour 0 d.hours))) ||((decide ((b.length:Int) > 0))&&((decide (x.no≤(b.getD (Int.toNat (i64.wrap ((b.length:Int) - 1))) (default:Judgement)).no)) ||(decide (x.hour< (b.getD (Int.toNat (i64.wrap ((b.length:Int) - 1))) (default:Judgement)).hour))))with
 |true=>rw[h1]at h;cases h
 |false=>
  rw[h1]at h;simp only[cond_false]at h;have hno:0≤x.no∧x.no≤1048576:=by
   have h2:aF x.no 0 1048576=true:=by
    cases hw:aF x.no 0 1048576 with
    |true=>rfl
    |false=>rw[hw]at h1;simp at h1
   simpa[GS]using h2
  cases ho:x.of_==0 with
  |false=>
   rw[ho]at h;simp only[cond_false,Bool.and_eq_true]at h;have ho':x.of_≠0:=fun e=>by rw[e]at ho;cases ho
   have hk:x.kind=0:=by
    have h2:=h.2;unfold i6 at h2;cases hz:(((((x.kind !=0) ||(x.farm !=0)) ||(x.other !=0)) ||(x.since !=0)) ||(x.to !=0)) ||(x.n !=0)with
    |true=>rw[hz]at h2;cases h2
    |false=>simp only[Bool.or_eq_false_iff]at hz;simpa using hz.1.1.1.1.1
   exact⟨hno,fun _=>hk,fun e=>absurd e ho',fun e=>absurd e ho',fun e=>by omega,fun _ e=>absurd e ho',fun e=>by omega⟩
  |true=>
   rw[ho]at h;simp only[cond_true]at h;have ho':x.of_=0:=eq_of_beq ho;unfold i5 at h;rw[IC (by omega:d.farms.length≤4096)]at h;simp only[GS]at h;have key:(1≤x.kind∧x.kind≤4)∧(0≤x.farm∧x.farm≤(d.farms.length:Int) - 1)∧(x.kind=1→x.n=0)∧(x.kind≠1→1≤x.n∧x.n≤1073741824)∧(3≤x.kind→(0≤x.other∧x.other≤(d.farms.length:Int) - 1)∧x.other≠x.farm):=by
    generalize ((d.farms.getD (Int.toNat x.other) (default:Farm)).reach==(d.farms.getD (Int.toNat x.farm) (default:Farm)).reach)=R at h;rw[Bool.cond_eq_ite]at h;split at h
    ·cases h
    rename_i hc;simp only[Bool.or_eq_true,Bool.not_eq_true',Bool.and_eq_false_iff,decide_eq_true_eq,decide_eq_false_iff_not,not_or]at hc;rw[Bool.cond_eq_ite]at h;split at h
    ·rename_i hk;have hk':=eq_of_beq hk;simp only[Bool.and_eq_true,beq_iff_eq]at h;omega
    rename_i hk1;have hk1':x.kind≠1:=fun e=>hk1 (by rw[e];rfl);rw[Bool.cond_eq_ite]at h;split at h
    ·rename_i hk;have hk':=eq_of_beq hk;simp only[Bool.and_eq_true,beq_iff_eq,decide_eq_true_eq]at h;omega
    rename_i hk2;rw[Bool.cond_eq_ite]at h;split at h
    ·cases h
    rename_i hc2;simp only[Bool.or_eq_true,Bool.not_eq_true',Bool.and_eq_false_iff,decide_eq_true_eq,decide_eq_false_iff_not,not_or,beq_iff_eq]at hc2;omega
   obtain⟨k1,k2,k3,k4,k5⟩:=key;exact⟨hno,fun e=>absurd ho' e,fun _=>k1,fun _=>⟨k2.1,by omega⟩,k3,fun e _=>k4 e,fun e=>⟨(k5 e).1.1,by have:=(k5 e).1.2;omega,(k5 e).2⟩⟩
theorem X6 {d:District}{j:List Judgement}(h:cW d j=0):∀ k,k<j.length→JOk d (j.getD k default):=fun k hk=>by
 obtain⟨h1,_,h3⟩:=zV h;have h4:bQ d=0:=by rw[wL];exact h1
 exact jok ((rt d).1 h4).1.2.1 (h3 k hk)
end Go.Sx
end
section
namespace Go.Sx
open Go.RowKit
def orC {α:Type 1}:Option α→Option α→Option α
 |some x,_=>some x
 |none,y=>y
@[go_sem] theorem X7 {α:Type 1}{x:α}{y:Option α}:orC (some x) y=some x:=(rfl)
@[go_sem] theorem X8 {α:Type 1}{y:Option α}:orC none y=y:=(rfl)
theorem xe {α:Type 1}{a b:Option α}{c:α}(h:orC a b=some c):a=some c∨b=some c:=by
 cases a with
 |none=>exact .inr h
 |some x=>exact .inl h
theorem FnOkO.or {P:Program}{f:FuncId}{C D:List SV→List Ob→Option HCon}(h1:FnOkO P f C)(h2:FnOkO P f D):FnOkO P f (fun l h=>orC (C l h) (D l h)):=
 ⟨fun l h c hc=>by rcases xe hc with e|e;exact h1.enter l h c e;exact h2.enter l h c e,
  fun l h c hc=>by rcases xe hc with e|e;exact h1.calls l h c e;exact h2.calls l h c e⟩
theorem FnOk.or {P:Program}{f:FuncId}{C D:List SV→Option Con}(h1:FnOk P f C)(h2:FnOk P f D):FnOk P f (fun l=>orC (C l) (D l)):=
 ⟨fun l c hc=>by rcases xe hc with e|e;exact h1.enter l c e;exact h2.enter l c e,
  fun l c hc=>by rcases xe hc with e|e;exact h1.calls l c e;exact h2.calls l c e⟩
def pXM {α:Type 1}(t t2:Tag)(k:List (t.T×t2.T)→List SV→Option α):List SV→Option α
 | .ep [s] 0::r=>pM t t2 k (s::r)
 |_=>none
@[go_sem] theorem X9 {α:Type 1}{t t2:Tag}{k:List (t.T×t2.T)→List SV→Option α}{s:SV}{r:List SV}:pXM t t2 k (.ep [s] 0::r)=pM t t2 k (s::r):=(rfl)
theorem Fd {α:Type 1}{G:List SV→α→Prop}{t t2:Tag}{k:List (t.T×t2.T)→List SV→Option α}(h:∀ n l c,k n l=some c→G (.ep [.rm t t2 n] 0::l) c):∀ l c,pXM t t2 k l=some c→G l c:=fun l c hc=>by
 unfold pXM at hc;split at hc
 ·obtain⟨x,r,e,h1⟩:=Tt hc;simp only[List.cons.injEq]at e;obtain⟨rfl,rfl⟩:=e;exact h x _ c h1
 ·cases hc
section
universe u
variable {α:Type u}{G:List SV→α→Prop}
def pLS (k:List SV→Option (List SV→Option α)):List SV→Option α
 | .ls l::r=>apO (k l) r
 |_=>none
@[go_sem] theorem abd {k:List SV→Option (List SV→Option α)}{l r:List SV}:pLS k (.ls l::r)=apO (k l) r:=(rfl)
theorem J0 {k:List SV→Option (List SV→Option α)}(h:∀ caps q,k caps=some q→∀ l c,q l=some c→G (.ls caps::l) c):∀ l c,pLS k l=some c→G l c:=fun l c hc=>by
 unfold pLS at hc;split at hc
 ·obtain⟨q,h1,h2⟩:=yR hc;exact h _ q h1 _ c h2
 ·cases hc
end
open Classical in
noncomputable def qp {τ:Type}(A:τ→List SV)(H:τ→List Ob)(K:τ→HCon):List SV→List Ob→Option HCon:=fun l h=>if e:∃ x,l=A x∧h=H x then some (K e.choose)else none
theorem Lk {k:Tag}{x y:k.T}:cellsOf k x=cellsOf k y↔x=y:=⟨fun h=>by
 have h1:=w6 x;rw[h,w6 y]at h1;exact(Option.some.inj h1).symm,fun h=>by rw[h]⟩
theorem nv {τ:Type}{A:τ→List SV}{H:τ→List Ob}{K:τ→HCon}{x:τ}(inj:∀ x y,A x=A y→H x=H y→x=y:=by
 intro x y h1 h2;simp only[List.cons.injEq,SV.agg.injEq,SV.ep.injEq,SV.v.injEq,Value.int.injEq,Value.bool.injEq,Value.string.injEq,SV.fn.injEq,SV.rs.injEq,SV.rm.injEq,Ob.row.injEq,Ob.mp.injEq,Ob.cells.injEq,Ob.grid.injEq,heq_eq_eq,Lk,true_and,and_true]at h1 h2;first|exact h2|exact h1|(simp_all [Prod.ext_iff];done)):qp A H K (A x) (H x)=some (K x):=by
 have e:∃ y,A x=A y∧H x=H y:=⟨x,rfl,rfl⟩;unfold qp;rw[dif_pos e];have:=inj _ _ e.choose_spec.1 e.choose_spec.2;rw[←this]
theorem kH {τ:Type}{A:τ→List SV}{H:τ→List Ob}{K:τ→HCon}{l:List SV}{h:List Ob}{c:HCon}(hh:qp A H K l h=some c):∃ x,l=A x∧h=H x∧c=K x:=by
 unfold qp at hh;split at hh
 ·rename_i e;simp only[Option.some.injEq]at hh;exact⟨e.choose,e.choose_spec.1,e.choose_spec.2,hh.symm⟩
 ·cases hh
end Go.Sx
end
section
namespace Go.Sx
open Go.Proofs
open IntKind (i64)
theorem uK {l0 l1 l2:List Nat}(a0:JL l0)(a1:JL l1)(a2:JL l2){p:Prop}(h:JL l0→JL l1→JL l2→p:=by intro ja jb jc;(first|done|(repeat' (first|with_reducible refine And.intro ?_ ?_|((with_reducible show _≠_);first|assumption|omega|(simp_all [dT,dW];done) |grind) |with_reducible intro _)) <;>(first|done|with_reducible exact Empty.elim ‹Empty› |with_reducible assumption|rfl|omega|assumption|decide|exact fk ja|exact fk jb|exact fk jc|exact czl|(simp only[*,cond_true,cond_false,Bool.not_true,Bool.not_false,go_sem,Nat.reduceBEq,Nat.reduceLeDiff,Nat.reduceLT,decide_true,Nat.reduceAdd,Nat.reduceSub,Nat.reduceMul,Int.reduceLE,Int.reduceLT,Int.reduceToNat,Int.reduceNeg,reduceCtorEq];(repeat' (first|with_reducible refine And.intro ?_ ?_|((with_reducible show _≠_);first|assumption|omega|(simp_all [dT,dW];done) |grind) |with_reducible intro _)) <;>(first|done|assumption|rfl|omega|decide|exact fk ja|exact fk jb|exact fk jc|(simp_all [dT,dW];done))) |(simp_all [okI,dT,dW];done) |(simp_all [dT,dW];(first|done|exact fk2 ja|exact fk2 jb|exact fk2 jc)) |exact fk2 ja|exact fk2 jb|exact fk2 jc))):p:=h a0 a1 a2
theorem NK {l0 l1 l2:List Nat}(a0:JL l0)(a1:JL l1)(a2:JL l2){p:Prop}(h:JL l0→JL l1→JL l2→p:=by intro ja jb jc;simp only[go_sem,Nat.reduceBEq,Nat.reduceLeDiff,Nat.reduceLT,decide_true,Nat.reduceAdd,Nat.reduceSub,Nat.reduceMul,Int.reduceLE,Int.reduceLT,Int.reduceToNat,Int.reduceNeg,reduceCtorEq];all_goals exact uK ja jb jc):p:=h a0 a1 a2
def eH (y:Claim)(x_:Judgement)(r_:List Claim)(i_:Int):Bool:=((y.farm==x_.other)&&(y.right==(r_.getD (Int.toNat i_) (default:Claim)).right))
def gw (y:Claim)(x_:Judgement)(r_:List Claim)(i_:Int):Prop:=((y.farm==x_.other)=true→(0≤i_∧i_< (r_.length:Int)))
@[go_sem] noncomputable def nB:List SV→Option Con:=(pD .claim fun y=>(pX .judgement fun x_=>(pXR .claim fun r_=>(pX .int fun i_=>(pE (.det (gw y x_ r_ i_) (.v (.bool (eH y x_ r_ i_)))))))))
theorem sZ:FnOk Tryz.prog 141 nB:=by
 have hG:ConsOk Tryz.prog (mkG [] []):=aq cg0 cg0;refine ax [.o] mixed ak hG (fn:=Tryz.f141) (c:=aa Tryz.f141) kr kr kr kr (aM fun y=>(aQ fun x_=>(A1 fun r_=>(aQ fun i_=>(ai (fun hp=>?_))))));dsimp only[ar]at hp;unfold gw at hp;refine⟨nbl rfl,L0,ah _,?_⟩
 ·unfold aa Tryz.f141;try unfold eH
  exact zq1
@[go_sem] def bH (s_:List Claim)(x_:Judgement)(r_:List Claim)(i_:Int)(k_0:Nat)(s_0:Unit):Int⊕Unit:=(bif(eH (s_.getD k_0 (default:Claim)) x_ r_ i_)then .inl (k_0:Int)else .inr ())
def bv (s_:List Claim)(x_:Judgement)(r_:List Claim)(i_:Int)(k_0:Nat)(s_0:Unit):Prop:=(gw (s_.getD k_0 (default:Claim)) x_ r_ i_)
def aj (s_:List Claim)(x_:Judgement)(r_:List Claim)(i_:Int):Int:=(match ay (bH s_ x_ r_ i_) s_.length 0 ()with| .inl x_0_0=>x_0_0| .inr s_0=>(-1))
def bK (s_:List Claim)(x_:Judgement)(r_:List Claim)(i_:Int):Prop:=(s_.length≤aJ→okI (bH s_ x_ r_ i_) (bv s_ x_ r_ i_) s_.length 0 ())
@[go_sem] noncomputable def c5:List SV→Option Con:=(pR .claim fun s_=>(pFn 141 (pX .judgement fun x_=>(pXR .claim fun r_=>(pX .int fun i_=>(pE ((pE (.det (bK s_ x_ r_ i_) (.v (.int .i64 (aj s_ x_ r_ i_))))))))))))
theorem eY:FnOk Tryz.prog 142 c5:=by
 have hG:ConsOk Tryz.prog (mkG [(141,nB)] []):=aq (cgc sZ cg0) cg0;refine ax [.o] mixed ak hG (fn:=Tryz.f142) (c:=aa Tryz.f142) kr kr kr kr (a8 fun s_=>(bF (aQ fun x_=>(A1 fun r_=>(aQ fun i_=>(ai ((ai (fun hp=>?_)))))))));dsimp only[ar]at hp;unfold bK at hp;refine⟨nbl rfl,(fun id st=>bif Nat.beq id 0 then some (LCR (ρ:=Int) (σ:=Unit) 0 [] [] (fun k_0 s_0=>⟨[(0,.rs .claim s_),(1,.fn 141 [] [.ep (cellsOf .judgement x_) 0,.ep [.rs .claim r_] 0,.ep [.v (.int .i64 i_)] 0]),(7,.v (.int .i64 (s_.length:Int))),(8,.v (.int .i64 (k_0:Int)))],[]⟩) (bH s_ x_ r_ i_) (bv s_ x_ r_ i_) s_.length () (s_.length≤aJ) (fun _=>.ret) (fun x_0_0=>⟨[(4,.v (.int .i64 x_0_0))],[]⟩) st)else none),?_,?_⟩
 ·unfold aa Tryz.f142;simp only[ap,true_and,and_true]
  ·refine bf mixed ak hG kr (fun _=>rfl) (s_.length:Int) rfl fD (fun hb0 k_0 s_0 hlt0 hq0 hw hc=>⟨L0,ah _,?_⟩) (fun hb0 s_0 hc=>?_)
   ·unfold bv at hq0;try simp only[hw,Int.toNat_natCast]at hq0
    exact aY (jl [])
   ·exact aX (jl [])
 ·unfold aa Tryz.f142;try unfold aj
  exact zq1
@[go_sem] noncomputable def c9:List SV→Option Con:=fun l=>(c5 l)
theorem jf:FnOk Tryz.prog 142 c9:=eY
@[go_sem] def bu (x:Judgement)(l_:List Claim)(k_0:Nat)(s_0:Int×List Claim×Int):(List Claim)⊕(Int×List Claim×Int):=(bif(decide (s_0.1≥0))then(bif((s_0.2.1.getD (Int.toNat s_0.1) (default:Claim)).farm !=x.farm)then .inr ((i64.wrap (s_0.1 - 1)),s_0.2.1,s_0.2.2)else(bif(decide ((aj (s_0.2.1.set (Int.toNat s_0.1) ({ right:=(s_0.2.1.getD (Int.toNat s_0.1) (default:Claim)).right,farm:=(s_0.2.1.getD (Int.toNat s_0.1) (default:Claim)).farm,hour:=(s_0.2.1.getD (Int.toNat s_0.1) (default:Claim)).hour,litres:=(i64.wrap ((s_0.2.1.getD (Int.toNat s_0.1) (default:Claim)).litres - (if s_0.2.2< (s_0.2.1.getD (Int.toNat s_0.1) (default:Claim)).litres then s_0.2.2 else(s_0.2.1.getD (Int.toNat s_0.1) (default:Claim)).litres))),rank:=(s_0.2.1.getD (Int.toNat s_0.1) (default:Claim)).rank}:Claim)) x (s_0.2.1.set (Int.toNat s_0.1) ({ right:=(s_0.2.1.getD (Int.toNat s_0.1) (default:Claim)).right,farm:=(s_0.2.1.getD (Int.toNat s_0.1) (default:Claim)).farm,hour:=(s_0.2.1.getD (Int.toNat s_0.1) (default:Claim)).hour,litres:=(i64.wrap ((s_0.2.1.getD (Int.toNat s_0.1) (default:Claim)).litres - (if s_0.2.2< (s_0.2.1.getD (Int.toNat s_0.1) (default:Claim)).litres then s_0.2.2 else(s_0.2.1.getD (Int.toNat s_0.1) (default:Claim)).litres))),rank:=(s_0.2.1.getD (Int.toNat s_0.1) (default:Claim)).rank}:Claim)) s_0.1)≥0))then .inr ((i64.wrap (s_0.1 - 1)),((s_0.2.1.set (Int.toNat s_0.1) ({ right:=(s_0.2.1.getD (Int.toNat s_0.1) (default:Claim)).right,farm:=(s_0.2.1.getD (Int.toNat s_0.1) (default:Claim)).farm,hour:=(s_0.2.1.getD (Int.toNat s_0.1) (default:Claim)).hour,litres:=(i64.wrap ((s_0.2.1.getD (Int.toNat s_0.1) (default:Claim)).litres - (if s_0.2.2< (s_0.2.1.getD (Int.toNat s_0.1) (default:Claim)).litres then s_0.2.2 else(s_0.2.1.getD (Int.toNat s_0.1) (default:Claim)).litres))),rank:=(s_0.2.1.getD (Int.toNat s_0.1) (default:Claim)).rank}:Claim)).set (Int.toNat (aj (s_0.2.1.set (Int.toNat s_0.1) ({ right:=(s_0.2.1.getD (Int.toNat s_0.1) (default:Claim)).right,farm:=(s_0.2.1.getD (Int.toNat s_0.1) (default:Claim)).farm,hour:=(s_0.2.1.getD (Int.toNat s_0.1) (default:Claim)).hour,litres:=(i64.wrap ((s_0.2.1.getD (Int.toNat s_0.1) (default:Claim)).litres - (if s_0.2.2< (s_0.2.1.getD (Int.toNat s_0.1) (default:Claim)).litres then s_0.2.2 else(s_0.2.1.getD (Int.toNat s_0.1) (default:Claim)).litres))),rank:=(s_0.2.1.getD (Int.toNat s_0.1) (default:Claim)).rank}:Claim)) x (s_0.2.1.set (Int.toNat s_0.1) ({ right:=(s_0.2.1.getD (Int.toNat s_0.1) (default:Claim)).right,farm:=(s_0.2.1.getD (Int.toNat s_0.1) (default:Claim)).farm,hour:=(s_0.2.1.getD (Int.toNat s_0.1) (default:Claim)).hour,litres:=(i64.wrap ((s_0.2.1.getD (Int.toNat s_0.1) (default:Claim)).litres - (if s_0.2.2< (s_0.2.1.getD (Int.toNat s_0.1) (default:Claim)).litres then s_0.2.2 else(s_0.2.1.getD (Int.toNat s_0.1) (default:Claim)).litres))),rank:=(s_0.2.1.getD (Int.toNat s_0.1) (default:Claim)).rank}:Claim)) s_0.1)) ({ right:=((s_0.2.1.set (Int.toNat s_0.1) ({ right:=(s_0.2.1.getD (Int.toNat s_0.1) (default:Claim)).right,farm:=(s_0.2.1.getD (Int.toNat s_0.1) (default:Claim)).farm,hour:=(s_0.2.1.getD (Int.toNat s_0.1) (default:Claim)).hour,litres:=(i64.wrap ((s_0.2.1.getD (Int.toNat s_0.1) (default:Claim)).litres - (if s_0.2.2< (s_0.2.1.getD (Int.toNat s_0.1) (default:Claim)).litres then s_0.2.2 else(s_0.2.1.getD (Int.toNat s_0.1) (default:Claim)).litres))),rank:=(s_0.2.1.getD (Int.toNat s_0.1) (default:Claim)).rank}:Claim)).getD (Int.toNat (aj (s_0.2.1.set (Int.toNat s_0.1) ({ right:=(s_0.2.1.getD (Int.toNat s_0.1) (default:Claim)).right,farm:=(s_0.2.1.getD (Int.toNat s_0.1) (default:Claim)).farm,hour:=(s_0.2.1.getD (Int.toNat s_0.1) (default:Claim)).hour,litres:=(i64.wrap ((s_0.2.1.getD (Int.toNat s_0.1) (default:Claim)).litres - (if s_0.2.2< (s_0.2.1.getD (Int.toNat s_0.1) (default:Claim)).litres then s_0.2.2 else(s_0.2.1.getD (Int.toNat s_0.1) (default:Claim)).litres))),rank:=(s_0.2.1.getD (Int.toNat s_0.1) (default:Claim)).rank}:Claim)) x (s_0.2.1.set (Int.toNat s_0.1) ({ right:=(s_0.2.1.getD (Int.toNat s_0.1) (default:Claim)).right,farm:=(s_0.2.1.getD (Int.toNat s_0.1) (default:Claim)).farm,hour:=(s_0.2.1.getD (Int.toNat s_0.1) (default:Claim)).hour,litres:=(i64.wrap ((s_0.2.1.getD (Int.toNat s_0.1) (default:Claim)).litres - (if s_0.2.2< (s_0.2.1.getD (Int.toNat s_0.1) (default:Claim)).litres then s_0.2.2 else(s_0.2.1.getD (Int.toNat s_0.1) (default:Claim)).litres))),rank:=(s_0.2.1.getD (Int.toNat s_0.1) (default:Claim)).rank}:Claim)) s_0.1)) (default:Claim)).right,farm:=((s_0.2.1.set (Int.toNat s_0.1) ({ right:=(s_0.2.1.getD (Int.toNat s_0.1) (default:Claim)).right,farm:=(s_0.2.1.getD (Int.toNat s_0.1) (default:Claim)).farm,hour:=(s_0.2.1.getD (Int.toNat s_0.1) (default:Claim)).hour,litres:=(i64.wrap ((s_0.2.1.getD (Int.toNat s_0.1) (default:Claim)).litres - (if s_0.2.2< (s_0.2.1.getD (Int.toNat s_0.1) (default:Claim)).litres then s_0.2.2 else(s_0.2.1.getD (Int.toNat s_0.1) (default:Claim)).litres))),rank:=(s_0.2.1.getD (Int.toNat s_0.1) (default:Claim)).rank}:Claim)).getD (Int.toNat (aj (s_0.2.1.set (Int.toNat s_0.1) ({ right:=(s_0.2.1.getD (Int.toNat s_0.1) (default:Claim)).right,farm:=(s_0.2.1.getD (Int.toNat s_0.1) (default:Claim)).farm,hour:=(s_0.2.1.getD (Int.toNat s_0.1) (default:Claim)).hour,litres:=(i64.wrap ((s_0.2.1.getD (Int.toNat s_0.1) (default:Claim)).litres - (if s_0.2.2< (s_0.2.1.getD (Int.toNat s_0.1) (default:Claim)).litres then s_0.2.2 else(s_0.2.1.getD (Int.toNat s_0.1) (default:Claim)).litres))),rank:=(s_0.2.1.getD (Int.toNat s_0.1) (default:Claim)).rank}:Claim)) x (s_0.2.1.set (Int.toNat s_0.1) ({ right:=(s_0.2.1.getD (Int.toNat s_0.1) (default:Claim)).right,farm:=(s_0.2.1.getD (Int.toNat s_0.1) (default:Claim)).farm,hour:=(s_0.2.1.getD (Int.toNat s_0.1) (default:Claim)).hour,litres:=(i64.wrap ((s_0.2.1.getD (Int.toNat s_0.1) (default:Claim)).litres - (if s_0.2.2< (s_0.2.1.getD (Int.toNat s_0.1) (default:Claim)).litres then s_0.2.2 else(s_0.2.1.getD (Int.toNat s_0.1) (default:Claim)).litres))),rank:=(s_0.2.1.getD (Int.toNat s_0.1) (default:Claim)).rank}:Claim)) s_0.1)) (default:Claim)).farm,hour:=((s_0.2.1.set (Int.toNat s_0.1) ({ right:=(s_0.2.1.getD (Int.toNat s_0.1) (default:Claim)).right,farm:=(s_0.2.1.getD (Int.toNat s_0.1) (default:Claim)).farm,hour:=(s_0.2.1.getD (Int.toNat s_0.1) (default:Claim)).hour,litres:=(i64.wrap ((s_0.2.1.getD (Int.toNat s_0.1) (default:Claim)).litres - (if s_0.2.2< (s_0.2.1.getD (Int.toNat s_0.1) (default:Claim)).litres then s_0.2.2 else(s_0.2.1.getD (Int.toNat s_0.1) (default:Claim)).litres))),rank:=(s_0.2.1.getD (Int.toNat s_0.1) (default:Claim)).rank}:Claim)).getD (Int.toNat (aj (s_0.2.1.set (Int.toNat s_0.1) ({ right:=(s_0.2.1.getD (Int.toNat s_0.1) (default:Claim)).right,farm:=(s_0.2.1.getD (Int.toNat s_0.1) (default:Claim)).farm,hour:=(s_0.2.1.getD (Int.toNat s_0.1) (default:Claim)).hour,litres:=(i64.wrap ((s_0.2.1.getD (Int.toNat s_0.1) (default:Claim)).litres - (if s_0.2.2< (s_0.2.1.getD (Int.toNat s_0.1) (default:Claim)).litres then s_0.2.2 else(s_0.2.1.getD (Int.toNat s_0.1) (default:Claim)).litres))),rank:=(s_0.2.1.getD (Int.toNat s_0.1) (default:Claim)).rank}:Claim)) x (s_0.2.1.set (Int.toNat s_0.1) ({ right:=(s_0.2.1.getD (Int.toNat s_0.1) (default:Claim)).right,farm:=(s_0.2.1.getD (Int.toNat s_0.1) (default:Claim)).farm,hour:=(s_0.2.1.getD (Int.toNat s_0.1) (default:Claim)).hour,litres:=(i64.wrap ((s_0.2.1.getD (Int.toNat s_0.1) (default:Claim)).litres - (if s_0.2.2< (s_0.2.1.getD (Int.toNat s_0.1) (default:Claim)).litres then s_0.2.2 else(s_0.2.1.getD (Int.toNat s_0.1) (default:Claim)).litres))),rank:=(s_0.2.1.getD (Int.toNat s_0.1) (default:Claim)).rank}:Claim)) s_0.1)) (default:Claim)).hour,litres:=(i64.wrap (((s_0.2.1.set (Int.toNat s_0.1) ({ right:=(s_0.2.1.getD (Int.toNat s_0.1) (default:Claim)).right,farm:=(s_0.2.1.getD (Int.toNat s_0.1) (default:Claim)).farm,hour:=(s_0.2.1.getD (Int.toNat s_0.1) (default:Claim)).hour,litres:=(i64.wrap ((s_0.2.1.getD (Int.toNat s_0.1) (default:Claim)).litres - (if s_0.2.2< (s_0.2.1.getD (Int.toNat s_0.1) (default:Claim)).litres then s_0.2.2 else(s_0.2.1.getD (Int.toNat s_0.1) (default:Claim)).litres))),rank:=(s_0.2.1.getD (Int.toNat s_0.1) (default:Claim)).rank}:Claim)).getD (Int.toNat (aj (s_0.2.1.set (Int.toNat s_0.1) ({ right:=(s_0.2.1.getD (Int.toNat s_0.1) (default:Claim)).right,farm:=(s_0.2.1.getD (Int.toNat s_0.1) (default:Claim)).farm,hour:=(s_0.2.1.getD (Int.toNat s_0.1) (default:Claim)).hour,litres:=(i64.wrap ((s_0.2.1.getD (Int.toNat s_0.1) (default:Claim)).litres - (if s_0.2.2< (s_0.2.1.getD (Int.toNat s_0.1) (default:Claim)).litres then s_0.2.2 else(s_0.2.1.getD (Int.toNat s_0.1) (default:Claim)).litres))),rank:=(s_0.2.1.getD (Int.toNat s_0.1) (default:Claim)).rank}:Claim)) x (s_0.2.1.set (Int.toNat s_0.1) ({ right:=(s_0.2.1.getD (Int.toNat s_0.1) (default:Claim)).right,farm:=(s_0.2.1.getD (Int.toNat s_0.1) (default:Claim)).farm,hour:=(s_0.2.1.getD (Int.toNat s_0.1) (default:Claim)).hour,litres:=(i64.wrap ((s_0.2.1.getD (Int.toNat s_0.1) (default:Claim)).litres - (if s_0.2.2< (s_0.2.1.getD (Int.toNat s_0.1) (default:Claim)).litres then s_0.2.2 else(s_0.2.1.getD (Int.toNat s_0.1) (default:Claim)).litres))),rank:=(s_0.2.1.getD (Int.toNat s_0.1) (default:Claim)).rank}:Claim)) s_0.1)) (default:Claim)).litres+(if s_0.2.2< (s_0.2.1.getD (Int.toNat s_0.1) (default:Claim)).litres then s_0.2.2 else(s_0.2.1.getD (Int.toNat s_0.1) (default:Claim)).litres))),rank:=((s_0.2.1.set (Int.toNat s_0.1) ({ right:=(s_0.2.1.getD (Int.toNat s_0.1) (default:Claim)).right,farm:=(s_0.2.1.getD (Int.toNat s_0.1) (default:Claim)).farm,hour:=(s_0.2.1.getD (Int.toNat s_0.1) (default:Claim)).hour,litres:=(i64.wrap ((s_0.2.1.getD (Int.toNat s_0.1) (default:Claim)).litres - (if s_0.2.2< (s_0.2.1.getD (Int.toNat s_0.1) (default:Claim)).litres then s_0.2.2 else(s_0.2.1.getD (Int.toNat s_0.1) (default:Claim)).litres))),rank:=(s_0.2.1.getD (Int.toNat s_0.1) (default:Claim)).rank}:Claim)).getD (Int.toNat (aj (s_0.2.1.set (Int.toNat s_0.1) ({ right:=(s_0.2.1.getD (Int.toNat s_0.1) (default:Claim)).right,farm:=(s_0.2.1.getD (Int.toNat s_0.1) (default:Claim)).farm,hour:=(s_0.2.1.getD (Int.toNat s_0.1) (default:Claim)).hour,litres:=(i64.wrap ((s_0.2.1.getD (Int.toNat s_0.1) (default:Claim)).litres - (if s_0.2.2< (s_0.2.1.getD (Int.toNat s_0.1) (default:Claim)).litres then s_0.2.2 else(s_0.2.1.getD (Int.toNat s_0.1) (default:Claim)).litres))),rank:=(s_0.2.1.getD (Int.toNat s_0.1) (default:Claim)).rank}:Claim)) x (s_0.2.1.set (Int.toNat s_0.1) ({ right:=(s_0.2.1.getD (Int.toNat s_0.1) (default:Claim)).right,farm:=(s_0.2.1.getD (Int.toNat s_0.1) (default:Claim)).farm,hour:=(s_0.2.1.getD (Int.toNat s_0.1) (default:Claim)).hour,litres:=(i64.wrap ((s_0.2.1.getD (Int.toNat s_0.1) (default:Claim)).litres - (if s_0.2.2< (s_0.2.1.getD (Int.toNat s_0.1) (default:Claim)).litres then s_0.2.2 else(s_0.2.1.getD (Int.toNat s_0.1) (default:Claim)).litres))),rank:=(s_0.2.1.getD (Int.toNat s_0.1) (default:Claim)).rank}:Claim)) s_0.1)) (default:Claim)).rank}:Claim)),(i64.wrap (s_0.2.2 - (if s_0.2.2< (s_0.2.1.getD (Int.toNat s_0.1) (default:Claim)).litres then s_0.2.2 else(s_0.2.1.getD (Int.toNat s_0.1) (default:Claim)).litres))))else .inr ((i64.wrap (s_0.1 - 1)),((s_0.2.1.set (Int.toNat s_0.1) ({ right:=(s_0.2.1.getD (Int.toNat s_0.1) (default:Claim)).right,farm:=(s_0.2.1.getD (Int.toNat s_0.1) (default:Claim)).farm,hour:=(s_0.2.1.getD (Int.toNat s_0.1) (default:Claim)).hour,litres:=(i64.wrap ((s_0.2.1.getD (Int.toNat s_0.1) (default:Claim)).litres - (if s_0.2.2< (s_0.2.1.getD (Int.toNat s_0.1) (default:Claim)).litres then s_0.2.2 else(s_0.2.1.getD (Int.toNat s_0.1) (default:Claim)).litres))),rank:=(s_0.2.1.getD (Int.toNat s_0.1) (default:Claim)).rank}:Claim))++([({ right:=((s_0.2.1.set (Int.toNat s_0.1) ({ right:=(s_0.2.1.getD (Int.toNat s_0.1) (default:Claim)).right,farm:=(s_0.2.1.getD (Int.toNat s_0.1) (default:Claim)).farm,hour:=(s_0.2.1.getD (Int.toNat s_0.1) (default:Claim)).hour,litres:=(i64.wrap ((s_0.2.1.getD (Int.toNat s_0.1) (default:Claim)).litres - (if s_0.2.2< (s_0.2.1.getD (Int.toNat s_0.1) (default:Claim)).litres then s_0.2.2 else(s_0.2.1.getD (Int.toNat s_0.1) (default:Claim)).litres))),rank:=(s_0.2.1.getD (Int.toNat s_0.1) (default:Claim)).rank}:Claim)).getD (Int.toNat s_0.1) (default:Claim)).right,farm:=x.other,hour:=((s_0.2.1.set (Int.toNat s_0.1) ({ right:=(s_0.2.1.getD (Int.toNat s_0.1) (default:Claim)).right,farm:=(s_0.2.1.getD (Int.toNat s_0.1) (default:Claim)).farm,hour:=(s_0.2.1.getD (Int.toNat s_0.1) (default:Claim)).hour,litres:=(i64.wrap ((s_0.2.1.getD (Int.toNat s_0.1) (default:Claim)).litres - (if s_0.2.2< (s_0.2.1.getD (Int.toNat s_0.1) (default:Claim)).litres then s_0.2.2 else(s_0.2.1.getD (Int.toNat s_0.1) (default:Claim)).litres))),rank:=(s_0.2.1.getD (Int.toNat s_0.1) (default:Claim)).rank}:Claim)).getD (Int.toNat s_0.1) (default:Claim)).hour,litres:=(if s_0.2.2< (s_0.2.1.getD (Int.toNat s_0.1) (default:Claim)).litres then s_0.2.2 else(s_0.2.1.getD (Int.toNat s_0.1) (default:Claim)).litres),rank:=((s_0.2.1.set (Int.toNat s_0.1) ({ right:=(s_0.2.1.getD (Int.toNat s_0.1) (default:Claim)).right,farm:=(s_0.2.1.getD (Int.toNat s_0.1) (default:Claim)).farm,hour:=(s_0.2.1.getD (Int.toNat s_0.1) (default:Claim)).hour,litres:=(i64.wrap ((s_0.2.1.getD (Int.toNat s_0.1) (default:Claim)).litres - (if s_0.2.2< (s_0.2.1.getD (Int.toNat s_0.1) (default:Claim)).litres then s_0.2.2 else(s_0.2.1.getD (Int.toNat s_0.1) (default:Claim)).litres))),rank:=(s_0.2.1.getD (Int.toNat s_0.1) (default:Claim)).rank}:Claim)).getD (Int.toNat s_0.1) (default:Claim)).rank}:Claim)])),(i64.wrap (s_0.2.2 - (if s_0.2.2< (s_0.2.1.getD (Int.toNat s_0.1) (default:Claim)).litres then s_0.2.2 else(s_0.2.1.getD (Int.toNat s_0.1) (default:Claim)).litres))))))else .inl s_0.2.1)
def bT (x:Judgement)(l_:List Claim)(k_0:Nat)(s_0:Int×List Claim×Int):Prop:=((decide (s_0.1≥0))=true→((0≤s_0.1∧s_0.1< (s_0.2.1.length:Int))∧(((s_0.2.1.getD (Int.toNat s_0.1) (default:Claim)).farm !=x.farm)=false→((0≤s_0.1∧s_0.1< (s_0.2.1.length:Int))∧((0≤s_0.1∧s_0.1< (s_0.2.1.length:Int))∧((0≤s_0.1∧s_0.1< (s_0.2.1.length:Int))∧((bK (s_0.2.1.set (Int.toNat s_0.1) ({ right:=(s_0.2.1.getD (Int.toNat s_0.1) (default:Claim)).right,farm:=(s_0.2.1.getD (Int.toNat s_0.1) (default:Claim)).farm,hour:=(s_0.2.1.getD (Int.toNat s_0.1) (default:Claim)).hour,litres:=(i64.wrap ((s_0.2.1.getD (Int.toNat s_0.1) (default:Claim)).litres - (if s_0.2.2< (s_0.2.1.getD (Int.toNat s_0.1) (default:Claim)).litres then s_0.2.2 else(s_0.2.1.getD (Int.toNat s_0.1) (default:Claim)).litres))),rank:=(s_0.2.1.getD (Int.toNat s_0.1) (default:Claim)).rank}:Claim)) x (s_0.2.1.set (Int.toNat s_0.1) ({ right:=(s_0.2.1.getD (Int.toNat s_0.1) (default:Claim)).right,farm:=(s_0.2.1.getD (Int.toNat s_0.1) (default:Claim)).farm,hour:=(s_0.2.1.getD (Int.toNat s_0.1) (default:Claim)).hour,litres:=(i64.wrap ((s_0.2.1.getD (Int.toNat s_0.1) (default:Claim)).litres - (if s_0.2.2< (s_0.2.1.getD (Int.toNat s_0.1) (default:Claim)).litres then s_0.2.2 else(s_0.2.1.getD (Int.toNat s_0.1) (default:Claim)).litres))),rank:=(s_0.2.1.getD (Int.toNat s_0.1) (default:Claim)).rank}:Claim)) s_0.1)∧(((decide ((aj (s_0.2.1.set (Int.toNat s_0.1) ({ right:=(s_0.2.1.getD (Int.toNat s_0.1) (default:Claim)).right,farm:=(s_0.2.1.getD (Int.toNat s_0.1) (default:Claim)).farm,hour:=(s_0.2.1.getD (Int.toNat s_0.1) (default:Claim)).hour,litres:=(i64.wrap ((s_0.2.1.getD (Int.toNat s_0.1) (default:Claim)).litres - (if s_0.2.2< (s_0.2.1.getD (Int.toNat s_0.1) (default:Claim)).litres then s_0.2.2 else(s_0.2.1.getD (Int.toNat s_0.1) (default:Claim)).litres))),rank:=(s_0.2.1.getD (Int.toNat s_0.1) (default:Claim)).rank}:Claim)) x (s_0.2.1.set (Int.toNat s_0.1) ({ right:=(s_0.2.1.getD (Int.toNat s_0.1) (default:Claim)).right,farm:=(s_0.2.1.getD (Int.toNat s_0.1) (default:Claim)).farm,hour:=(s_0.2.1.getD (Int.toNat s_0.1) (default:Claim)).hour,litres:=(i64.wrap ((s_0.2.1.getD (Int.toNat s_0.1) (default:Claim)).litres - (if s_0.2.2< (s_0.2.1.getD (Int.toNat s_0.1) (default:Claim)).litres then s_0.2.2 else(s_0.2.1.getD (Int.toNat s_0.1) (default:Claim)).litres))),rank:=(s_0.2.1.getD (Int.toNat s_0.1) (default:Claim)).rank}:Claim)) s_0.1)≥0))=true→((0≤(aj (s_0.2.1.set (Int.toNat s_0.1) ({ right:=(s_0.2.1.getD (Int.toNat s_0.1) (default:Claim)).right,farm:=(s_0.2.1.getD (Int.toNat s_0.1) (default:Claim)).farm,hour:=(s_0.2.1.getD (Int.toNat s_0.1) (default:Claim)).hour,litres:=(i64.wrap ((s_0.2.1.getD (Int.toNat s_0.1) (default:Claim)).litres - (if s_0.2.2< (s_0.2.1.getD (Int.toNat s_0.1) (default:Claim)).litres then s_0.2.2 else(s_0.2.1.getD (Int.toNat s_0.1) (default:Claim)).litres))),rank:=(s_0.2.1.getD (Int.toNat s_0.1) (default:Claim)).rank}:Claim)) x (s_0.2.1.set (Int.toNat s_0.1) ({ right:=(s_0.2.1.getD (Int.toNat s_0.1) (default:Claim)).right,farm:=(s_0.2.1.getD (Int.toNat s_0.1) (default:Claim)).farm,hour:=(s_0.2.1.getD (Int.toNat s_0.1) (default:Claim)).hour,litres:=(i64.wrap ((s_0.2.1.getD (Int.toNat s_0.1) (default:Claim)).litres - (if s_0.2.2< (s_0.2.1.getD (Int.toNat s_0.1) (default:Claim)).litres then s_0.2.2 else(s_0.2.1.getD (Int.toNat s_0.1) (default:Claim)).litres))),rank:=(s_0.2.1.getD (Int.toNat s_0.1) (default:Claim)).rank}:Claim)) s_0.1)∧(aj (s_0.2.1.set (Int.toNat s_0.1) ({ right:=(s_0.2.1.getD (Int.toNat s_0.1) (default:Claim)).right,farm:=(s_0.2.1.getD (Int.toNat s_0.1) (default:Claim)).farm,hour:=(s_0.2.1.getD (Int.toNat s_0.1) (default:Claim)).hour,litres:=(i64.wrap ((s_0.2.1.getD (Int.toNat s_0.1) (default:Claim)).litres - (if s_0.2.2< (s_0.2.1.getD (Int.toNat s_0.1) (default:Claim)).litres then s_0.2.2 else(s_0.2.1.getD (Int.toNat s_0.1) (default:Claim)).litres))),rank:=(s_0.2.1.getD (Int.toNat s_0.1) (default:Claim)).rank}:Claim)) x (s_0.2.1.set (Int.toNat s_0.1) ({ right:=(s_0.2.1.getD (Int.toNat s_0.1) (default:Claim)).right,farm:=(s_0.2.1.getD (Int.toNat s_0.1) (default:Claim)).farm,hour:=(s_0.2.1.getD (Int.toNat s_0.1) (default:Claim)).hour,litres:=(i64.wrap ((s_0.2.1.getD (Int.toNat s_0.1) (default:Claim)).litres - (if s_0.2.2< (s_0.2.1.getD (Int.toNat s_0.1) (default:Claim)).litres then s_0.2.2 else(s_0.2.1.getD (Int.toNat s_0.1) (default:Claim)).litres))),rank:=(s_0.2.1.getD (Int.toNat s_0.1) (default:Claim)).rank}:Claim)) s_0.1) < ((s_0.2.1.set (Int.toNat s_0.1) ({ right:=(s_0.2.1.getD (Int.toNat s_0.1) (default:Claim)).right,farm:=(s_0.2.1.getD (Int.toNat s_0.1) (default:Claim)).farm,hour:=(s_0.2.1.getD (Int.toNat s_0.1) (default:Claim)).hour,litres:=(i64.wrap ((s_0.2.1.getD (Int.toNat s_0.1) (default:Claim)).litres - (if s_0.2.2< (s_0.2.1.getD (Int.toNat s_0.1) (default:Claim)).litres then s_0.2.2 else(s_0.2.1.getD (Int.toNat s_0.1) (default:Claim)).litres))),rank:=(s_0.2.1.getD (Int.toNat s_0.1) (default:Claim)).rank}:Claim)).length:Int))∧(0≤(aj (s_0.2.1.set (Int.toNat s_0.1) ({ right:=(s_0.2.1.getD (Int.toNat s_0.1) (default:Claim)).right,farm:=(s_0.2.1.getD (Int.toNat s_0.1) (default:Claim)).farm,hour:=(s_0.2.1.getD (Int.toNat s_0.1) (default:Claim)).hour,litres:=(i64.wrap ((s_0.2.1.getD (Int.toNat s_0.1) (default:Claim)).litres - (if s_0.2.2< (s_0.2.1.getD (Int.toNat s_0.1) (default:Claim)).litres then s_0.2.2 else(s_0.2.1.getD (Int.toNat s_0.1) (default:Claim)).litres))),rank:=(s_0.2.1.getD (Int.toNat s_0.1) (default:Claim)).rank}:Claim)) x (s_0.2.1.set (Int.toNat s_0.1) ({ right:=(s_0.2.1.getD (Int.toNat s_0.1) (default:Claim)).right,farm:=(s_0.2.1.getD (Int.toNat s_0.1) (default:Claim)).farm,hour:=(s_0.2.1.getD (Int.toNat s_0.1) (default:Claim)).hour,litres:=(i64.wrap ((s_0.2.1.getD (Int.toNat s_0.1) (default:Claim)).litres - (if s_0.2.2< (s_0.2.1.getD (Int.toNat s_0.1) (default:Claim)).litres then s_0.2.2 else(s_0.2.1.getD (Int.toNat s_0.1) (default:Claim)).litres))),rank:=(s_0.2.1.getD (Int.toNat s_0.1) (default:Claim)).rank}:Claim)) s_0.1)∧(aj (s_0.2.1.set (Int.toNat s_0.1) ({ right:=(s_0.2.1.getD (Int.toNat s_0.1) (default:Claim)).right,farm:=(s_0.2.1.getD (Int.toNat s_0.1) (default:Claim)).farm,hour:=(s_0.2.1.getD (Int.toNat s_0.1) (default:Claim)).hour,litres:=(i64.wrap ((s_0.2.1.getD (Int.toNat s_0.1) (default:Claim)).litres - (if s_0.2.2< (s_0.2.1.getD (Int.toNat s_0.1) (default:Claim)).litres then s_0.2.2 else(s_0.2.1.getD (Int.toNat s_0.1) (default:Claim)).litres))),rank:=(s_0.2.1.getD (Int.toNat s_0.1) (default:Claim)).rank}:Claim)) x (s_0.2.1.set (Int.toNat s_0.1) ({ right:=(s_0.2.1.getD (Int.toNat s_0.1) (default:Claim)).right,farm:=(s_0.2.1.getD (Int.toNat s_0.1) (default:Claim)).farm,hour:=(s_0.2.1.getD (Int.toNat s_0.1) (default:Claim)).hour,litres:=(i64.wrap ((s_0.2.1.getD (Int.toNat s_0.1) (default:Claim)).litres - (if s_0.2.2< (s_0.2.1.getD (Int.toNat s_0.1) (default:Claim)).litres then s_0.2.2 else(s_0.2.1.getD (Int.toNat s_0.1) (default:Claim)).litres))),rank:=(s_0.2.1.getD (Int.toNat s_0.1) (default:Claim)).rank}:Claim)) s_0.1) < ((s_0.2.1.set (Int.toNat s_0.1) ({ right:=(s_0.2.1.getD (Int.toNat s_0.1) (default:Claim)).right,farm:=(s_0.2.1.getD (Int.toNat s_0.1) (default:Claim)).farm,hour:=(s_0.2.1.getD (Int.toNat s_0.1) (default:Claim)).hour,litres:=(i64.wrap ((s_0.2.1.getD (Int.toNat s_0.1) (default:Claim)).litres - (if s_0.2.2< (s_0.2.1.getD (Int.toNat s_0.1) (default:Claim)).litres then s_0.2.2 else(s_0.2.1.getD (Int.toNat s_0.1) (default:Claim)).litres))),rank:=(s_0.2.1.getD (Int.toNat s_0.1) (default:Claim)).rank}:Claim)).length:Int))))∧((decide ((aj (s_0.2.1.set (Int.toNat s_0.1) ({ right:=(s_0.2.1.getD (Int.toNat s_0.1) (default:Claim)).right,farm:=(s_0.2.1.getD (Int.toNat s_0.1) (default:Claim)).farm,hour:=(s_0.2.1.getD (Int.toNat s_0.1) (default:Claim)).hour,litres:=(i64.wrap ((s_0.2.1.getD (Int.toNat s_0.1) (default:Claim)).litres - (if s_0.2.2< (s_0.2.1.getD (Int.toNat s_0.1) (default:Claim)).litres then s_0.2.2 else(s_0.2.1.getD (Int.toNat s_0.1) (default:Claim)).litres))),rank:=(s_0.2.1.getD (Int.toNat s_0.1) (default:Claim)).rank}:Claim)) x (s_0.2.1.set (Int.toNat s_0.1) ({ right:=(s_0.2.1.getD (Int.toNat s_0.1) (default:Claim)).right,farm:=(s_0.2.1.getD (Int.toNat s_0.1) (default:Claim)).farm,hour:=(s_0.2.1.getD (Int.toNat s_0.1) (default:Claim)).hour,litres:=(i64.wrap ((s_0.2.1.getD (Int.toNat s_0.1) (default:Claim)).litres - (if s_0.2.2< (s_0.2.1.getD (Int.toNat s_0.1) (default:Claim)).litres then s_0.2.2 else(s_0.2.1.getD (Int.toNat s_0.1) (default:Claim)).litres))),rank:=(s_0.2.1.getD (Int.toNat s_0.1) (default:Claim)).rank}:Claim)) s_0.1)≥0))=false→((0≤s_0.1∧s_0.1< ((s_0.2.1.set (Int.toNat s_0.1) ({ right:=(s_0.2.1.getD (Int.toNat s_0.1) (default:Claim)).right,farm:=(s_0.2.1.getD (Int.toNat s_0.1) (default:Claim)).farm,hour:=(s_0.2.1.getD (Int.toNat s_0.1) (default:Claim)).hour,litres:=(i64.wrap ((s_0.2.1.getD (Int.toNat s_0.1) (default:Claim)).litres - (if s_0.2.2< (s_0.2.1.getD (Int.toNat s_0.1) (default:Claim)).litres then s_0.2.2 else(s_0.2.1.getD (Int.toNat s_0.1) (default:Claim)).litres))),rank:=(s_0.2.1.getD (Int.toNat s_0.1) (default:Claim)).rank}:Claim)).length:Int))∧(((s_0.2.1.set (Int.toNat s_0.1) ({ right:=(s_0.2.1.getD (Int.toNat s_0.1) (default:Claim)).right,farm:=(s_0.2.1.getD (Int.toNat s_0.1) (default:Claim)).farm,hour:=(s_0.2.1.getD (Int.toNat s_0.1) (default:Claim)).hour,litres:=(i64.wrap ((s_0.2.1.getD (Int.toNat s_0.1) (default:Claim)).litres - (if s_0.2.2< (s_0.2.1.getD (Int.toNat s_0.1) (default:Claim)).litres then s_0.2.2 else(s_0.2.1.getD (Int.toNat s_0.1) (default:Claim)).litres))),rank:=(s_0.2.1.getD (Int.toNat s_0.1) (default:Claim)).rank}:Claim))++([({ right:=((s_0.2.1.set (Int.toNat s_0.1) ({ right:=(s_0.2.1.getD (Int.toNat s_0.1) (default:Claim)).right,farm:=(s_0.2.1.getD (Int.toNat s_0.1) (default:Claim)).farm,hour:=(s_0.2.1.getD (Int.toNat s_0.1) (default:Claim)).hour,litres:=(i64.wrap ((s_0.2.1.getD (Int.toNat s_0.1) (default:Claim)).litres - (if s_0.2.2< (s_0.2.1.getD (Int.toNat s_0.1) (default:Claim)).litres then s_0.2.2 else(s_0.2.1.getD (Int.toNat s_0.1) (default:Claim)).litres))),rank:=(s_0.2.1.getD (Int.toNat s_0.1) (default:Claim)).rank}:Claim)).getD (Int.toNat s_0.1) (default:Claim)).right,farm:=x.other,hour:=((s_0.2.1.set (Int.toNat s_0.1) ({ right:=(s_0.2.1.getD (Int.toNat s_0.1) (default:Claim)).right,farm:=(s_0.2.1.getD (Int.toNat s_0.1) (default:Claim)).farm,hour:=(s_0.2.1.getD (Int.toNat s_0.1) (default:Claim)).hour,litres:=(i64.wrap ((s_0.2.1.getD (Int.toNat s_0.1) (default:Claim)).litres - (if s_0.2.2< (s_0.2.1.getD (Int.toNat s_0.1) (default:Claim)).litres then s_0.2.2 else(s_0.2.1.getD (Int.toNat s_0.1) (default:Claim)).litres))),rank:=(s_0.2.1.getD (Int.toNat s_0.1) (default:Claim)).rank}:Claim)).getD (Int.toNat s_0.1) (default:Claim)).hour,litres:=(if s_0.2.2< (s_0.2.1.getD (Int.toNat s_0.1) (default:Claim)).litres then s_0.2.2 else(s_0.2.1.getD (Int.toNat s_0.1) (default:Claim)).litres),rank:=((s_0.2.1.set (Int.toNat s_0.1) ({ right:=(s_0.2.1.getD (Int.toNat s_0.1) (default:Claim)).right,farm:=(s_0.2.1.getD (Int.toNat s_0.1) (default:Claim)).farm,hour:=(s_0.2.1.getD (Int.toNat s_0.1) (default:Claim)).hour,litres:=(i64.wrap ((s_0.2.1.getD (Int.toNat s_0.1) (default:Claim)).litres - (if s_0.2.2< (s_0.2.1.getD (Int.toNat s_0.1) (default:Claim)).litres then s_0.2.2 else(s_0.2.1.getD (Int.toNat s_0.1) (default:Claim)).litres))),rank:=(s_0.2.1.getD (Int.toNat s_0.1) (default:Claim)).rank}:Claim)).getD (Int.toNat s_0.1) (default:Claim)).rank}:Claim)])).length*40≤dC)))))))))))
def ca (x:Judgement)(l_:List Claim):List Claim:=(match ay (bu x l_) (l_.length+1) 0 ((i64.wrap ((l_.length:Int) - 1)),l_,x.n)with| .inl x_0_0=>x_0_0| .inr s_0=>default)
def cL (x:Judgement)(l_:List Claim):Prop:=(l_.length≤aJ→(okI (bu x l_) (bT x l_) (l_.length+1) 0 ((i64.wrap ((l_.length:Int) - 1)),l_,x.n)∧(∀ z_,ay (bu x l_) (l_.length+1) 0 ((i64.wrap ((l_.length:Int) - 1)),l_,x.n)≠ .inr z_)))
noncomputable def jU:List SV→List Ob→Option HCon:=qp (fun x_:Judgement×(List Claim) =>[.os 0,.agg (cellsOf .judgement x_.1)]) (fun x_=>[.row .claim x_.2]) (fun x_=>jp (cL x_.1 x_.2) (.os 1) [.dead,.row .claim (ca x_.1 x_.2)])
@[go_sem] theorem CF (x:Judgement)(l_:List Claim):jU ([.os 0,.agg [.v (.int .i64 x.no),.v (.int .i64 x.hour),.v (.int .i64 x.kind),.v (.int .i64 x.farm),.v (.int .i64 x.other),.v (.int .i64 x.since),.v (.int .i64 x.to),.v (.int .i64 x.n),.v (.int .i64 x.of_)]]) ([.row .claim l_])=some (jp (cL x l_) (.os 1) [.dead,.row .claim (ca x l_)]):=nv (A:=fun x_:Judgement×(List Claim) =>[.os 0,.agg (cellsOf .judgement x_.1)]) (H:=fun x_=>[.row .claim x_.2]) (K:=fun x_=>jp (cL x_.1 x_.2) (.os 1) [.dead,.row .claim (ca x_.1 x_.2)]) (x:=(x,l_))
theorem zq90 {l0:List Nat}(a0:JL l0){p:Prop}(h:JL l0→p:=by intro ja;simp only[go_sem,Nat.reduceBEq,Nat.reduceLeDiff,Nat.reduceLT,decide_true,Nat.reduceAdd,Nat.reduceSub,Nat.reduceMul,Int.reduceLE,Int.reduceLT,Int.reduceToNat,Int.reduceNeg,reduceCtorEq,c9];all_goals exact kX ja):p:=h a0
theorem uc:FnOkO Tryz.prog 89 (jU):=by
 have hG:ConsOk Tryz.prog (mkG [(142,fun l=>c9 (a7 [.sl .claim,.o] l))] []):=aq (cgc (jf.norm [.sl .claim,.o]) cg0) cg0;refine pi mixed ak hG (fn:=Tryz.f89) (c:=aa Tryz.f89) kr kr kr kr fun l o con h=>?_;obtain⟨⟨x,l_⟩,rfl,rfl,rfl⟩:=kH h;clear h;try dsimp only
 refine⟨_,_,_,rfl,fun hp=>?_⟩;unfold cL at hp;refine⟨nbl rfl,(fun id st=>bif Nat.beq id 0 then some (LCV (ρ:=(List Claim)) (σ:=(Int×List Claim×Int)) 4 [] [0,1,2,3,3,0] (fun k_0 s_0=>⟨[(2,.ptr 1 0),(3,.ptr 2 0),(5,.v (.int .i64 s_0.2.2)),(6,.ptr 4 0)],[.dead,.cells [.os 5],.cells (cellsOf .judgement x),.dead,.cells [.v (.int .i64 s_0.1)],.row .claim s_0.2.1]⟩) (bu x l_) (bT x l_) (l_.length+1) ((i64.wrap ((l_.length:Int) - 1)),l_,x.n) (fun _=>.normal) (fun x_0_0=>⟨[(2,.ptr 1 0)],[.dead,.cells [.os 5],.dead,.dead,.dead,.row .claim x_0_0]⟩) st)else none),?_,?_⟩
 ·unfold aa Tryz.f89;simp only[ap,true_and,and_true,and_assoc]
  ·refine mq mixed ak hG kr (fun _=>rfl) fun k_0 s_0 hq0=>⟨L0,ah _,?_⟩
   ·unfold bT at hq0;exact NK (jl [0,1,2,3,6,5]) (jl [0,1,2,3,9,8]) (jl [0,1,2,3,4,5])
 ·unfold aa Tryz.f89;try unfold ca
  exact zq90 (jl [0,5])
end Go.Sx
end
section
namespace Go.Sx
def TX {α:Type}:Result α→World
 | .ok _ w=>w
 | .halt _ w=>w
theorem IE {α:Type}:∀ (a:Ask α) (w:World),w.drawn≤(w.ask a).2.drawn
 | .done a,w=>Nat.le_refl _
 | .ask what range k,w=>by
  unfold World.ask;dsimp only;split
  ·exact IE _ w
  ·exact Nat.le_trans (Nat.le_succ _) (IE _ { w with drawn:=w.drawn+1})
theorem TY (w:World)(c:Sys):w.drawn≤(w.sys c).2.drawn:=by
 unfold World.sys;have:=IE (Kernel.perform c w.os) w;split
 ·exact Nat.le_refl _
 ·rename_i h;rw[h]at this;exact this
theorem GV {p:Program}{w w':World}{a:Addr}{v:Value}{b:Bool}{l:List Addr}(h:w.farStore p a v b=.ok (w',l)):w'.drawn=w.drawn:=by
 unfold World.farStore at h;split at h
 ·split at h
  ·rename_i r hr;cases h;unfold World.viewStore at hr;simp only[bind,Except.bind,pure,Except.pure]at hr
   repeat' split at hr
   all_goals (first|(cases hr;done) |skip)
   all_goals (cases hr;rfl)
  ·cases h
 ·cases h
theorem Fe {α:Type}(p:Program):∀ (s:Sem α) (w:World),w.drawn≤(TX (s.run p w)).drawn:=by
 intro s;induction s with
 |pure a=>intro w;exact Nat.le_refl _
 |load m a k ih=>
  intro w;unfold Sem.run;split
  ·exact ih _ w
  ·split
   ·exact ih _ w
   ·exact Nat.le_refl _
 |store m a v k ih=>
  intro w;cases v
  case agg=>exact Nat.le_refl _
  case tuple=>exact Nat.le_refl _
  all_goals
   simp only[Sem.run];split
   ·split
    ·exact Nat.le_refl _
    ·exact ih (w.setCell a _)
   ·split
    ·rename_i h;rw[←GV h];exact ih _
    ·exact Nat.le_refl _
 |new o k ih=>intro w;exact ih w.heap.size { w with heap:=w.heap.push o}
 |shape r k ih=>intro w;exact ih _ _
 |freeze a n k ih=>
  intro w;have:(w.freeze a n).drawn=w.drawn:=by unfold World.freeze;split <;>rfl
  rw[←this];exact ih _
 |frozen a k ih=>intro w;exact ih _ _
 |getObj r k ih=>
  intro w;unfold Sem.run;split
  ·exact Nat.le_refl _
  ·exact ih _ _
  ·exact Nat.le_refl _
 |setObj r o k ih=>
  intro w;unfold Sem.run;split
  ·exact Nat.le_refl _
  ·exact ih { w with heap:=w.heap.setIfInBounds r o}
  ·exact Nat.le_refl _
 |choose q k ih=>
  intro w;unfold Sem.run;split
  ·exact ih _ _
  ·exact Nat.le_trans (Nat.le_succ _) (ih _ { w with drawn:=w.drawn+1})
 |sys c k ih=>intro w;exact Nat.le_trans (TY w c) (ih _ _)
 |program k ih=>intro w;exact ih _ _
 |mark m k ih=>intro w;exact ih _
 |halt h=>intro w;exact Nat.le_refl _
theorem NL {α:Type}(p:Program):∀ (s:Sem α) (w:World) (es:Array Event),(s.runT p w es).1=s.run p w:=by
 intro s;induction s with
 |store m a v k ih=>
  intro w es;cases v
  case agg=>rfl
  case tuple=>rfl
  all_goals
   simp only[Sem.runT,Sem.run];split
   ·split
    ·rfl
    ·exact ih _ _
   ·split
    ·exact ih _ _
    ·rfl
 |load m a k ih=>
  intro w es;simp only[Sem.runT,Sem.run];split
  ·exact ih _ _ _
  ·split
   ·exact ih _ _ _
   ·rfl
 |getObj r k ih=>
  intro w es;simp only[Sem.runT,Sem.run];split
  ·rfl
  ·exact ih _ _ _
  ·rfl
 |setObj r o k ih=>
  intro w es;simp only[Sem.runT,Sem.run];split
  ·rfl
  ·exact ih _ _
  ·rfl
 |choose q k ih=>
  intro w es;simp only[Sem.runT,Sem.run];split
  ·exact ih _ _ _
  ·exact ih _ _ _
 |pure a=>intro w es;rfl
 |new o k ih=>intro w es;exact ih _ _ _
 |shape r k ih=>intro w es;exact ih _ _ _
 |freeze a n k ih=>intro w es;exact ih _ _
 |frozen a k ih=>intro w es;exact ih _ _ _
 |sys c k ih=>intro w es;exact ih _ _ _
 |program k ih=>intro w es;exact ih _ _ _
 |mark m k ih=>intro w es;exact ih _ _
 |halt h=>intro w es;rfl
theorem mD {α:Type}{p:Program}{s:Sem α}{w w':World}{a:α}(h:s.run p w=.ok a w'):w.drawn≤w'.drawn:=by have:=Fe p s w;rw[h]at this;exact this
theorem NM {α:Type}{p:Program}{s:Sem α}{w w':World}{a:Halt}(h:s.run p w=.halt a w'):w.drawn≤w'.drawn:=by have:=Fe p s w;rw[h]at this;exact this
theorem sr {α:Type}{p:Program}{s:Sem α}{w:World}{es es':Array Event}{r:Result α}(h:s.runT p w es=(r,es')):w.drawn≤(TX r).drawn:=by
 have:=NL p s w es;rw[h]at this;have h2:=Fe p s w;rw[←this]at h2;exact h2
def gLe (w:World):GStep→Prop
 | .ended .. =>True
 | .go _ w' _| .comm _ _ _ _ w' _| .spawn _ _ w' _| .count _ w' _| .timer _ _ w' _| .alone _ _ w' _| .newcoro _ _ _ w' _| .coroswitch _ _ _ w' _| .collect _ w' _| .watch _ w' _=>w.drawn≤w'.drawn
theorem gLe.after {w:World}{es:Array Event}{s:GStep}(h:gLe w s):gLe w (s.after es):=by cases s <;>exact h
theorem gLe.trans {w w':World}{s:GStep}(h1:w.drawn≤w'.drawn)(h:gLe w' s):gLe w s:=by cases s <;>first|trivial|exact Nat.le_trans h1 h
theorem y3 {c:Prop}[Decidable c]{w:World}{a b:GStep}(h1:gLe w a)(h2:gLe w b):gLe w (if c then a else b):=by split <;>assumption
theorem tP (fr:Frame)(m:String)(w:World):gLe w (endThrow fr m w):=Nat.le_refl _
theorem wQ (p:Program)(fr:Frame)(v:Value)(w:World):gLe w (endPrinting p fr v w):=by
 unfold endPrinting;dsimp only;split
 ·exact tP _ _ _
 ·trivial
theorem Ax (p:Program)(fr:Frame)(callers:List Frame)(dying:Option Dying)(m:String)(w:World):gLe w (endFatal p fr callers dying m w):=by
 unfold endFatal
 extract_lets
 split
 ·rename_i h;exact mD h
 ·trivial
 ·trivial
theorem IF (p:Program)(fr:Frame)(d:Dying)(f:Fatal)(w:World):gLe w (writeOn p fr d f w):=by
 unfold writeOn
 extract_lets
 split
 ·trivial
 ·extract_lets
  generalize h:Sem.runT _ _ _ _=rr;obtain⟨r,es⟩:=rr;have h:=sr h;split
  ·rename_i e;cases e;exact h
  ·rename_i e;cases e;exact h
  ·trivial
  ·trivial
theorem IG (w w':World)(fd:Nat)(t:ByteArray)(o:Outcome):gLe w (endWith w' fd t o):=by
 unfold endWith
 extract_lets
 split
 ·split <;>trivial
 ·trivial
 ·trivial
theorem TZ (p:Program)(fr:Frame)(d:Dying)(w:World):gLe w (die p fr d w):=by
 unfold die;split
 ·exact IF _ _ _ _ _
 ·split
  ·split
   ·exact Nat.le_refl _
   ·exact IG _ _ _ _ _
  ·extract_lets
   split
   ·exact Nat.le_refl _
   ·split
    ·rename_i h;exact mD h
    ·trivial
   ·split
    rename_i h;have h:=sr h;refine gLe.after ?_;split
    all_goals first|exact h|trivial|exact gLe.trans h (wQ _ _ _ _)
   ·trivial
theorem wR (p:Program)(main:Bool)(fr:Frame)(callers:List Frame)(dying:Option Dying)(v:Value)(w:World):gLe w (doReturn p main fr callers dying v w):=by
 unfold doReturn;split
 ·split
  all_goals exact Nat.le_refl _
 ·split
  ·exact Nat.le_refl _
  ·trivial
  ·split
   ·exact Nat.le_refl _
   ·split
    ·exact Nat.le_refl _
    ·trivial
theorem AR (p:Program)(fr:Frame)(callers:List Frame)(dying:Option Dying)(d:Deferred)(w:World):gLe w (callDeferred p fr callers dying d w):=by
 unfold callDeferred;refine y3 trivial ?_;rcases h:(invoke d.target d.args).runT p w #[]with⟨r,es⟩;have h:=sr h;dsimp only;refine gLe.after ?_;split
 all_goals first|exact h|trivial|exact gLe.trans h (Ax _ _ _ _ _ _) |exact gLe.trans h (tP _ _ _) |skip
 split <;>exact h
theorem Ll (p:Program)(main:Bool)(fr:Frame)(callers:List Frame)(dying:Option Dying)(w:World):gLe w (unwind p main fr callers dying w):=by
 unfold unwind;split
 ·split
  rename_i h;have h:=sr h;refine gLe.after ?_;split
  ·exact h
  ·trivial
 ·exact AR _ _ _ _ _ _
 ·split
  ·trivial
  ·split
   ·trivial
   ·split
    ·exact Nat.le_refl _
    ·split
     ·split
      ·exact Nat.le_refl _
      ·split
       ·rename_i h;exact mD h
       ·trivial
       ·trivial
     ·split
      ·exact wQ _ _ _ _
      ·trivial
  ·split
   ·exact wR _ _ _ _ _ _ _
   ·split
    rename_i h;have h:=sr h;refine gLe.after ?_;split
    ·exact gLe.trans h (wR _ _ _ _ _ _ _)
    ·trivial
    ·trivial
theorem NN (p:Program)(fr:Frame)(callers:List Frame)(dying:Option Dying)(g:Nat)(w:World):gLe w (early p fr callers dying g w):=by
 unfold early
 extract_lets refuse notYet there
 have hn:∀ w0:World,w.drawn≤w0.drawn→gLe w (notYet w0):=fun w0 h0=>by
  show gLe w (match w0.heap[g]? with|some (.pending c elem) =>_|_=>_);split
  ·exact h0
  ·trivial
 split
 ·exact hn w (Nat.le_refl _)
 ·split
  ·trivial
  ·extract_lets there
   have ht:∀ w0:World,w.drawn≤w0.drawn→gLe w (there w0):=fun w0 h0=>h0;split
   ·exact hn w (Nat.le_refl _)
   ·split
    ·exact hn w (Nat.le_refl _)
    ·split
     ·trivial
     ·exact ht w (Nat.le_refl _)
     ·trivial
     ·exact hn w (Nat.le_refl _)
     ·split
      ·exact ht w (Nat.le_refl _)
      ·split
       ·exact hn w (Nat.le_refl _)
       ·split
        ·rename_i h;exact hn _ (mD h)
        ·rename_i h;exact ht _ (mD h)
        ·trivial
theorem wS (p:Program)(listen:Bool)(fr:Frame)(callers:List Frame)(dying:Option Dying)(s:Sem Next)(w:World):gLe w (Go.stepG.apply p listen fr callers dying s w):=by
 unfold Go.stepG.apply
 extract_lets go kind
 have hr:∃ r es,(if listen=true then s.runT p w #[]else(s.run p w,#[]))=(r,es)∧w.drawn≤(TX r).drawn:=by
  split
  ·rcases h:s.runT p w #[]with⟨r,es⟩;exact⟨r,es,rfl,sr h⟩
  ·exact⟨_,_,rfl,Fe p s w⟩
 obtain⟨r,es,he,h⟩:=hr;rw[he];dsimp only;refine gLe.after ?_;have hgo:∀ fr w0,w.drawn≤w0.drawn→gLe w (go fr w0):=fun fr w0 h0=>h0;split
 all_goals first|exact h|trivial|exact hgo _ _ h|exact gLe.trans h (Ax _ _ _ _ _ _) |exact gLe.trans h (tP _ _ _) |exact gLe.trans h (NN _ _ _ _ _ _) |skip
 all_goals first|(refine y3 (gLe.trans h (tP _ _ _)) ?_;exact h) |(split <;>first|exact h|trivial|exact hgo _ _ h)
theorem QL (p:Program)(listen:Bool)(fr:Frame)(callers:List Frame)(dying:Option Dying)(w:World):gLe w (Go.stepG.oper p listen fr callers dying w):=by
 unfold Go.stepG.oper;split
 ·trivial
 ·split
  ·exact wS _ _ _ _ _ _ _
  ·exact wS _ _ _ _ _ _ _
theorem J1 {α:Type}{w:World}{o:Option α}{a:GStep}{f:α→GStep}(h1:gLe w a)(h2:∀ x,gLe w (f x)):gLe w (o.elim a f):=by cases o;exact h1;exact h2 _
theorem QM (p:Program)(main listen:Bool)(fr:Frame)(callers:List Frame)(dying:Option Dying)(w:World):gLe w (Go.stepG.exec p main listen fr callers dying w):=by
 unfold Go.stepG.exec
 extract_lets go to lost leave
 have hgo:∀ fr w0,w.drawn≤w0.drawn→gLe w (go fr w0):=fun fr w0 h0=>h0;have hto:∀ k,gLe w (to k):=fun k=>Nat.le_refl _;have hlost:∀ m,gLe w (lost m):=fun _=>trivial;have hleave:∀ j,gLe w (leave j):=fun j=>by
  show gLe w (match fr.roundOf with|none=>_|some l=>_);split
  ·refine y3 (hgo _ _ (Nat.le_refl _)) trivial
  ·rcases h:(Instr.endRound _ j).runT p w #[]with⟨r,es⟩;have h:=sr h;dsimp only;refine gLe.after ?_;split
   ·exact gLe.trans h (wR _ _ _ _ _ _ _)
   ·trivial
 have hgo1:∀ fr,gLe w (go fr w):=fun fr=>Nat.le_refl _
 clear_value to lost leave
 split
 all_goals first|exact hleave _|exact hto _|exact hlost _|trivial|exact J1 (hleave _) hto|exact wS _ _ _ _ _ _ _|exact J1 (hlost _) (fun _=>wS _ _ _ _ _ _ _) |skip
 ·split
  ·exact hto _
  ·exact hlost _
 ·rcases h:(Instr.enterLoop fr.fn fr.tmps _ _ _ fr.roundOf).runT p w #[]with⟨r,es⟩;have h:=sr h;dsimp only;refine gLe.after ?_;split
  ·exact gLe.trans h (wS _ _ _ _ _ _ _)
  ·trivial
 ·rcases h:(Instr.endLoop _).runT p w #[]with⟨r,es⟩;have h:=sr h;dsimp only;refine gLe.after ?_;split
  ·exact hgo _ _ h
  ·exact hgo _ _ h
  ·trivial
 ·refine y3 (hto _) ?_;split
  ·rename_i h;exact hgo _ _ (mD h)
  ·trivial
 ·exact y3 (QL _ _ _ _ _ _) (hgo1 _)
theorem NO (p:Program)(main:Bool)(g:Goroutine)(w:World)(listen:Bool):gLe w (Go.stepG p main g w listen):=by
 unfold Go.stepG;obtain⟨fr,callers,st,dying,off⟩:=g;dsimp only;split
 ·exact TZ _ _ _ _
 ·exact QM _ _ _ _ _ _ _
 ·exact Ll _ _ _ _ _ _
def sLe (w:World):Stepped→Prop
 | .next m=>w.drawn≤m.world.drawn
 | .ended .. =>True
theorem sLe.trans {w w':World}{s:Stepped}(h1:w.drawn≤w'.drawn)(h:sLe w' s):sLe w s:=by cases s <;>first|trivial|exact Nat.le_trans h1 h
theorem J2 {c:Prop}[Decidable c]{w:World}{a b:Stepped}(h1:sLe w a)(h2:sLe w b):sLe w (if c then a else b):=by split <;>assumption
theorem J3 (p:Program)(gs:Array Goroutine)(rest:Rest)(w:World):sLe w (look p gs rest w):=by
 unfold look;split
 ·extract_lets
  refine J2 trivial ?_;split
  ·trivial
  ·extract_lets
   split
   ·rename_i h;have h:=mD h;exact h
   ·trivial
   ·trivial
 ·trivial
theorem Fg {rest:Rest}{cases:Array CommCase}{w w':World}(h:waitingAt rest cases w=some w'):w.drawn≤w'.drawn:=by
 unfold waitingAt at h;split at h
 ·split at h
  ·cases h;exact Nat.le_refl _
  ·cases h
 ·cases h;exact Nat.le_refl _
theorem CG (p:Program)(rest:Rest)(gs:Array Goroutine)(i:Nat)(g:Goroutine)(cases:Array CommCase)(bl:Bool)(shape:CommShape)(w:World):sLe w (communicate p rest gs i g cases bl shape w).1:=by
 unfold communicate
 extract_lets put illMade me other
 have hput:∀ g gs w0 ops,w.drawn≤w0.drawn→sLe w (put g gs w0 ops).1:=fun _ _ _ _ h=>h;split
 ·trivial
 ·split
  ·split
   ·split
    ·rename_i h;exact Fg h
    ·trivial
   ·exact hput _ _ _ _ (Nat.le_refl _)
  ·split
   ·trivial
   ·rename_i h;have hw:=mD h;clear h
    extract_lets r
    split
    ·split
     ·rename_i h2;exact hput _ _ _ _ (Nat.le_trans hw (NM h2))
     ·trivial
    ·exact hput _ _ _ _ hw
    ·exact hput _ _ _ _ hw
    ·extract_lets
     split
     ·exact hput _ _ _ _ hw
     ·split
      ·rename_i h2;have h3:=mD h2;exact hput _ _ _ _ (Nat.le_trans hw h3)
      ·trivial
    ·exact hput _ _ _ _ hw
    ·exact hput _ _ _ _ hw
    ·trivial
theorem D_ (m:Machine)(k:Nat)(t:Timer)(a b:Nat):m.world.drawn≤(retime m k t a b).2.world.drawn:=by
 unfold retime drain;dsimp only
 repeat' split
 all_goals first|exact Nat.le_refl _|skip
 all_goals (simp_all;try omega)
theorem IH {m m':Machine}{op:TimerOp}{v:Value}(h:timerOp m op=.ok (v,m')):m.world.drawn≤m'.world.drawn:=by
 have named:∀ (D:Nat) (m0:Machine) var f,(∀ k t,D≤(f k t).2.world.drawn)→timerOp.named m0 var f=.ok (v,m')→D≤m'.world.drawn:=fun D m0 var f hf h=>by
  unfold timerOp.named at h;split at h
  ·injection h with h;exact Nat.le_trans (hf _ _) (Nat.le_of_eq (congrArg (fun x:Value×Machine=>x.2.world.drawn) h))
  ·cases h
 unfold timerOp at h;split at h
 ·split at h
  ·cases h;exact Nat.le_refl _
  ·split at h
   ·split at h
    ·cases h
    ·cases h;exact Nat.le_refl _
   ·cases h
 ·exact named _ _ _ _ (fun k t=>D_ _ _ _ _ _) h
 ·split at h
  ·rename_i m1 ho;have h1:m.world.drawn≤m1.world.drawn:=by
    unfold timerOp.opened at ho;split at ho
    ·split at ho
     ·cases ho;exact Nat.le_refl _
     ·cases ho
    ·cases ho;exact Nat.le_refl _
   exact Nat.le_trans h1 (named m1.world.drawn _ _ _ (fun k t=>D_ _ _ _ _ _) h)
  ·cases h
 ·cases h;exact Nat.le_refl _
theorem NP (p:Program)(m:Machine)(i:Nat)(listen:Bool):sLe m.world (Go.runT p m i listen).1:=by
 unfold Go.runT
 extract_lets rest world
 split
 extract_lets wake fn pos s ops done
 have hs:gLe m.world s:=NO _ _ _ _ _;have hd:∀ r,(done r).1=r:=fun r=>rfl
 clear_value s done
 split
 all_goals try rw[hd]
 ·trivial
 ·split
  rename_i h;have:=CG p rest ‹_› i ‹_› ‹_› ‹_› ‹_› ‹_›;rw[h]at this;exact sLe.trans hs this
 ·exact hs
 ·exact hs
 ·exact J2 trivial hs
 ·exact hs
 ·exact sLe.trans hs (J3 _ _ _ _)
 ·exact hs
 ·exact hs
 ·split
  ·exact hs
  ·split
   ·rename_i h;simp only[endThrow,dieOf]at h;cases h;exact hs
   ·trivial
  ·trivial
 ·split
  ·rename_i h;exact Nat.le_trans hs (IH h)
  ·exact hs
  ·trivial
  ·trivial
theorem NQ (p:Program)(m:Machine)(k:Nat):sLe m.world (serve p m k):=by
 unfold serve;split
 ·trivial
 ·exact Nat.le_refl _
 ·extract_lets
  split
  ·trivial
  ·exact Nat.le_refl _
def mLe (w:World):Move→Prop
 | .goroutine m _=>w.drawn≤m.world.drawn
 | .machine s _=>sLe w s
theorem mLe.trans {w w':World}{s:Move}(h1:w.drawn≤w'.drawn)(h:mLe w' s):mLe w s:=by
 cases s
 ·exact Nat.le_trans h1 h
 ·exact sLe.trans h1 h
theorem CH (p:Program)(m:Machine):mLe m.world (askOn p m):=by
 unfold askOn
 extract_lets mono rs ds pick
 have hpick:∀ m0:Machine,m.world.drawn≤m0.world.drawn→mLe m.world (pick m0):=fun m0 h0=>by
  show mLe m.world (match (choose (.sched rs.length)).run p m0.world with| .halt _ w=>_| .ok k world=>_);split
  ·trivial
  ·rename_i h;have h1:=mD h;split
   ·exact Nat.le_trans h0 h1
   ·split
    ·trivial
    ·rename_i h2;have h2:=mD h2;exact Nat.le_trans h0 (Nat.le_trans h1 h2)
 clear_value pick rs ds
 split
 ·trivial
 ·rename_i h;have hw:=mD h;clear h
  extract_lets m1
  split
  ·exact sLe.trans hw (NQ p _ _)
  ·cases rs with
   |nil=>
    dsimp only;split
    ·exact hw
    ·split
     ·exact hw
     ·split <;>trivial
   |cons r rs=>
    dsimp only;split
    ·exact hpick _ hw
    ·split
     ·trivial
     ·rename_i h;have h2:=mD h;exact hpick _ (Nat.le_trans hw h2)
     ·rename_i h;have h2:=mD h;exact Nat.le_trans hw h2
     ·rename_i h;have h2:=mD h;exact hpick _ (Nat.le_trans hw h2)
theorem GW (p:Program)(m:Machine):mLe m.world (ask p m):=by
 unfold ask;split
 ·split
  ·trivial
  ·rename_i h;have hw:=mD h;have:=J3 p m.gs m.rest ‹World›;split
   ·rename_i m2 h2;rw[h2]at this;exact mLe.trans (Nat.le_trans hw this) (CH p _)
   ·rename_i e h2;exact sLe.trans hw this
  ·rename_i h;have hw:=mD h;exact mLe.trans hw (CH p _)
 ·exact CH p m
theorem QN (p:Program)(m:Machine):mLe m.world (move p m):=by
 unfold move;split
 ·split
  ·exact Nat.le_refl _
  ·trivial
 ·split
  ·split
   ·exact Nat.le_refl _
   ·exact GW p _
  ·exact GW p m
theorem QO (p:Program)(m:Machine):sLe m.world (step p m):=by
 unfold step stepT;have:=QN p m;split
 ·rename_i h;rw[h]at this;exact sLe.trans this (NP p _ _ _)
 ·rename_i h;rw[h]at this;exact this
theorem GX {p:Program}{m m':Machine}(h:Steps p m m'):m.world.drawn≤m'.world.drawn:=by
 obtain⟨n,hn⟩:=h;induction n generalizing m with
 |zero=>simp only[runN,Stepped.next.injEq]at hn;subst hn;exact Nat.le_refl _
 |succ n ih=>
  simp only[runN]at hn;have:=QO p m;cases hs:step p m with
  |next m1=>
   rw[hs]at hn this;exact Nat.le_trans this (ih hn)
  |ended o w=>rw[hs]at hn;cases hn
theorem GY {P:Program}{f:FuncId}{args:Array Value}{w:World}{R:Ending→World→Prop}(h:Calls P f args w R):Calls P f args w fun e w'=>R e w'∧(e≠ .outgrown→w.drawn≤w'.drawn):=by
 intro cs;obtain⟨e,w',fr,hr,hc,hf,hl⟩:=h cs;refine⟨e,w',fr,⟨hr,fun hne=>?_⟩,hc,hf,hl⟩;cases e with
 |returned v=>exact GX (p:=P) hc
 |panicked c=>exact GX (p:=P) hc
 |outgrown=>exact absurd rfl hne
end Go.Sx
end
section
namespace Go.Sx
open Go.Lib Go.Proofs Go.RowKit Go.Shelf Go.Sort
def X_:SV→Value
 | .v x=>x
 |_=>undef
def su (k:Tag)(x:k.T):List Value:=(cellsOf k x).map X_
def Fh (k:Tag):Prop:= ∀ (x:k.T) (s:SV),s∈cellsOf k x→∃ v,s=.v v∧v.oneCell'=true
def srt {α:Type}(cf:α→α→Int)(l:List α):List α:=l.mergeSort fun x y=>!(ltOf cf y x)
def apart {α:Type}(cf:α→α→Int)(l:List α):Prop:= ∀ x∈l,∀ y∈l,ltOf cf x y=false→ltOf cf y x=false→x=y
theorem II {α:Type}[Inhabited α]{cf:α→α→Int}(hO:SWO (ltOf cf)){l:List α}(h:apart cf l){d':Array α}(hp:PermIn 0 l.toArray.size l.toArray d')(hs:SortedIn (ltOf cf) 0 l.toArray.size d'):d'=(srt cf l).toArray:=by
 obtain⟨hsz,_,hperm⟩:=hp;have e1:d'.extract 0 l.toArray.size=d':=by rw[←hsz];exact Array.extract_size
 rw[e1,Array.extract_size]at hperm;have hperm:d'.toList.Perm l:=by simpa using hperm
 have:d'.toList=srt cf l:=by
  refine List.Perm.eq_of_pairwise (le:=fun x y=>(!ltOf cf y x)=true) ?_ ?_ ?_ (hperm.trans (List.mergeSort_perm _ _).symm)
  ·intro a b ha hb h1 h2;simp only[Bool.not_eq_true']at h1 h2;exact h a (hperm.subset ha) b ((List.mergeSort_perm _ _).subset hb) h2 h1
  ·rw[List.pairwise_iff_getElem];intro i j hi hj hij;have:=hs i j (Nat.zero_le _) hij (by simp only[List.size_toArray]at hsz ⊢;simp only[Array.length_toList]at hj;omega);simp only[Array.length_toList]at hi hj;rw[getElem!_pos d' i hi,getElem!_pos d' j hj]at this;simpa using this
  ·refine List.pairwise_mergeSort (fun a b c h1 h2=>?_) (fun a b=>?_) l
   ·simp only[Bool.not_eq_true']at h1 h2 ⊢;exact hO.ntrans c b a h2 h1
   ·simp only[Bool.or_eq_true,Bool.not_eq_true'];cases h1:ltOf cf b a with
    |false=>exact .inl rfl
    |true=>
     right;cases h2:ltOf cf a b with
     |false=>rfl
     |true=>
      have h3:=hO.trans a b a h2 h1;rw[hO.irrefl]at h3;cases h3
 rw[←this]
section
variable {P:Program}{ρ:Ren}{F:Nat→Prop}{own:Own}{w:World}{k:Tag}
theorem Lm (hk:Fh k){l:List k.T}{o:Nat}{cs:Array Value}(h:RowAt F own w k l o cs){i j:Nat}(hi:i<l.length)(hj:j<ae k):cs[o+i*ae k+j]? =(su k l[i])[j]?:=by
 have e1:=List.getElem?_eq_getElem hi;have hlen:j< (cellsOf k l[i]).length:=by rw[bb];exact hj
 have e2:=List.getElem?_eq_getElem hlen;obtain⟨u,h1,h2⟩:=h i _ e1 j _ e2;obtain⟨v,h3,_⟩:=hk l[i] _ (List.getElem_mem hlen);rw[h1];unfold su;rw[List.getElem?_map,e2];rw[h3]at h2 ⊢;rw[bC h2];rfl
theorem Ln (hk:Fh k){l:List k.T}{o:Nat}{cs:Array Value}(h:∀ i j,(hi:i<l.length)→j<ae k→cs[o+i*ae k+j]? =(su k l[i])[j]?):RowAt F own w k l o cs:=by
 intro i x hi j s hj;obtain⟨hl,rfl⟩:=List.getElem?_eq_some_iff.1 hi;have hlen:=(List.getElem?_eq_some_iff.1 hj).1;rw[bb]at hlen;have:=h i j hl hlen;unfold su at this;rw[List.getElem?_map,hj]at this;obtain⟨v,h3,_⟩:=hk _ s (List.mem_of_getElem? hj);subst h3;exact⟨v,this,.v v⟩
theorem QP {w w':World}(hb:Go.RowKit.Below w.heap.size w w')(hd:w.drawn≤w'.drawn):∃ q os,w'=grow (w.drewN q) os:=by
 refine⟨w'.drawn - w.drawn,w'.heap.extract w.heap.size w'.heap.size,?_⟩;obtain⟨h1,h2,h3,h4,h5⟩:=hb;obtain⟨heap,tape,drawn,os,output⟩:=w;obtain⟨heap',tape',drawn',os',output'⟩:=w';simp only at h1 h2 h3 h4 h5 hd;subst h1;subst h2;subst h3;unfold grow World.drewN;simp only[World.mk.injEq,true_and,and_true];refine⟨?_,by omega⟩;apply Array.ext
 ·simp;omega
 ·intro i hi1 hi2;by_cases hi:i<heap.size
  ·rw[Array.getElem_append_left hi];have:=h5 i hi;rw[Array.getElem?_eq_getElem hi1,Array.getElem?_eq_getElem hi]at this;exact Option.some.inj this
  ·rw[Array.getElem_append_right (by omega)];simp only[Array.getElem_extract];congr 1;omega
end
end Go.Sx
end
