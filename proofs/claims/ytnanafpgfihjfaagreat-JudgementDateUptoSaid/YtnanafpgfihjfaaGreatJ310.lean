/- Part of the proof that the law JudgementDate returns true and leaves its arguments as they were, for all arguments of bulk at most 1048576 (the Upto form). -/
import Derived.Test.YtnanafpgfihjfaaGreatJ309
import Derived.Test.YtnanafpgfihjfaaGreatJ308
import Derived.Calls
import Derived.Shelf.SlSortCmp.NoneTotal
import Derived.Ground.SlsfProg
import Derived.Test.YtnanafpgfihjfaaGreatProg
import Derived.Test.YtnanafpgfihjfaaGreatJ306
import Derived.Test.YtnanafpgfihjfaaGreatJ307
import Derived.Test.YtnanafpgfihjfaaGreatJ301
set_option linter.all false
set_option maxHeartbeats 4000000
set_option maxRecDepth 100000
section
namespace Go.Sx
open Go.Proofs
open IntKind (i64)
theorem uH {l0 l1 l2:List Nat}(a0:JL l0)(a1:JL l1)(a2:JL l2){p:Prop}(h:JL l0→JL l1→JL l2→p:=by intro ja jb jc;(first|done|(repeat' (first|with_reducible refine And.intro ?_ ?_|((with_reducible show _≠_);first|assumption|omega|(simp_all [dL,fD];done) |grind) |with_reducible intro _)) <;>(first|done|with_reducible exact Empty.elim ‹Empty› |with_reducible assumption|rfl|omega|assumption|decide|exact fk ja|exact fk jb|exact fk jc|exact czl|(simp only[*,cond_true,cond_false,Bool.not_true,Bool.not_false,go_sem,Nat.reduceBEq,Nat.reduceLeDiff,Nat.reduceLT,decide_true,Nat.reduceAdd,Nat.reduceSub,Nat.reduceMul,Int.reduceLE,Int.reduceLT,Int.reduceToNat,Int.reduceNeg,reduceCtorEq];(repeat' (first|with_reducible refine And.intro ?_ ?_|((with_reducible show _≠_);first|assumption|omega|(simp_all [dL,fD];done) |grind) |with_reducible intro _)) <;>(first|done|assumption|rfl|omega|decide|exact fk ja|exact fk jb|exact fk jc|(simp_all [dL,fD];done))) |(simp_all [okI,dL,fD];done) |(simp_all [dL,fD];(first|done|exact fk2 ja|exact fk2 jb|exact fk2 jc)) |exact fk2 ja|exact fk2 jb|exact fk2 jc))):p:=h a0 a1 a2
theorem NT {l0 l1 l2:List Nat}(a0:JL l0)(a1:JL l1)(a2:JL l2){p:Prop}(h:JL l0→JL l1→JL l2→p:=by intro ja jb jc;simp only[go_sem,Nat.reduceBEq,Nat.reduceLeDiff,Nat.reduceLT,decide_true,Nat.reduceAdd,Nat.reduceSub,Nat.reduceMul,Int.reduceLE,Int.reduceLT,Int.reduceToNat,Int.reduceNeg,reduceCtorEq];all_goals exact uH ja jb jc):p:=h a0 a1 a2
def eu (y:Claim)(x_:Judgement)(r_:List Claim)(i_:Int):Bool:=((y.farm==x_.other)&&(y.right==(r_.getD (Int.toNat i_) default).right))
def gF (y:Claim)(x_:Judgement)(r_:List Claim)(i_:Int):Prop:=((y.farm==x_.other)=true→(0≤i_∧i_< (r_.length:Int)))
@[go_sem] noncomputable def nB:List SV→Option Con:=(pD .claim fun y=>(pX .judgement fun x_=>(pXR .claim fun r_=>(pX .int fun i_=>(pE (.det (gF y x_ r_ i_) (.v (.bool (eu y x_ r_ i_)))))))))
theorem sG:FnOk Tryz.prog 141 nB:=by
 have hG:ConsOk Tryz.prog (mkG [] []):=ap cg0 cg0;refine av [.o] mixed al hG (fn:=Tryz.f141) (c:=ae Tryz.f141) kr kr kr kr (bp fun y=>(aO fun x_=>(yS fun r_=>(aO fun i_=>(ai (fun hp=>?_))))));dsimp only[ar]at hp;unfold gF at hp;refine⟨nbl rfl,L0,ag _,?_⟩
 ·unfold ae Tryz.f141;try unfold eu
  exact zq1
@[go_sem] def bA (s_:List Claim)(x_:Judgement)(r_:List Claim)(i_:Int)(k_0:Nat)(s_0:Unit):Int⊕Unit:=(bif(eu (s_.getD k_0 default) x_ r_ i_)then .inl (k_0:Int)else .inr ())
def bh (s_:List Claim)(x_:Judgement)(r_:List Claim)(i_:Int)(k_0:Nat)(s_0:Unit):Prop:=(gF (s_.getD k_0 default) x_ r_ i_)
def aA (s_:List Claim)(x_:Judgement)(r_:List Claim)(i_:Int):Int:=(match aq (bA s_ x_ r_ i_) s_.length 0 ()with| .inl x_0_0=>x_0_0| .inr s_0=>(-1))
def bD (s_:List Claim)(x_:Judgement)(r_:List Claim)(i_:Int):Prop:=(s_.length≤aL→okI (bA s_ x_ r_ i_) (bh s_ x_ r_ i_) s_.length 0 ())
@[go_sem] noncomputable def cO:List SV→Option Con:=(pR .claim fun s_=>(pFn 141 (pX .judgement fun x_=>(pXR .claim fun r_=>(pX .int fun i_=>(pE ((pE (.det (bD s_ x_ r_ i_) (.v (.int .i64 (aA s_ x_ r_ i_))))))))))))
theorem eQ:FnOk Tryz.prog 142 cO:=by
 have hG:ConsOk Tryz.prog (mkG [(141,nB)] []):=ap (cgc sG cg0) cg0;refine av [.o] mixed al hG (fn:=Tryz.f142) (c:=ae Tryz.f142) kr kr kr kr (bK fun s_=>(bq (aO fun x_=>(yS fun r_=>(aO fun i_=>(ai ((ai (fun hp=>?_)))))))));dsimp only[ar]at hp;unfold bD at hp;refine⟨nbl rfl,(fun id st=>bif Nat.beq id 0 then some (LCR (ρ:=Int) (σ:=Unit) 0 [] [] (fun k_0 s_0=>⟨[(0,.rs .claim s_),(1,.fn 141 [] [.ep (cellsOf .judgement x_) 0,.ep [.rs .claim r_] 0,.ep [.v (.int .i64 i_)] 0]),(7,.v (.int .i64 (s_.length:Int))),(8,.v (.int .i64 (k_0:Int)))],[]⟩) (bA s_ x_ r_ i_) (bh s_ x_ r_ i_) s_.length () (s_.length≤aL) (fun _=>.ret) (fun x_0_0=>⟨[(4,.v (.int .i64 x_0_0))],[]⟩) st)else none),?_,?_⟩
 ·unfold ae Tryz.f142;simp only[am,true_and,and_true]
  ·refine aV mixed al hG kr (fun _=>rfl) (s_.length:Int) rfl ia (fun hb0 k_0 s_0 hlt0 hq0 hw hc=>⟨L0,ag _,?_⟩) (fun hb0 s_0 hc=>?_)
   ·unfold bh at hq0;try simp only[hw,Int.toNat_natCast]at hq0
    exact bX (jl [])
   ·exact bH (jl [])
 ·unfold ae Tryz.f142;try unfold aA
  exact zq1
@[go_sem] noncomputable def cW:List SV→Option Con:=fun l=>(cO l)
theorem jm:FnOk Tryz.prog 142 cW:=eQ
@[go_sem] def bM (x:Judgement)(l_:List Claim)(k_0:Nat)(s_0:Int×List Claim×Int):(List Claim)⊕(Int×List Claim×Int):=letI q6:=i64.wrap (s_0.1 - 1);letI q8:=Int.toNat s_0.1;letI q1:=s_0.2.1.getD q8 default;letI q3:=if s_0.2.2<q1.litres then s_0.2.2 else q1.litres;letI q0:=s_0.2.1.set q8 ({ right:=q1.right,farm:=q1.farm,hour:=q1.hour,litres:=(i64.wrap (q1.litres - q3)),rank:=q1.rank}:Claim);letI q4:=aA q0 x q0 s_0.1;letI q2:=q0.getD (Int.toNat q4) default;letI q5:=q0.getD q8 default;letI q7:=i64.wrap (s_0.2.2 - q3);(bif(decide (s_0.1≥0))then(bif(q1.farm !=x.farm)then .inr (q6,s_0.2.1,s_0.2.2)else(bif(decide (q4≥0))then .inr (q6,(q0.set (Int.toNat q4) ({ right:=q2.right,farm:=q2.farm,hour:=q2.hour,litres:=(i64.wrap (q2.litres+q3)),rank:=q2.rank}:Claim)),q7)else .inr (q6,(q0++([({ right:=q5.right,farm:=x.other,hour:=q5.hour,litres:=q3,rank:=q5.rank}:Claim)])),q7)))else .inl s_0.2.1)
def bQ (x:Judgement)(l_:List Claim)(k_0:Nat)(s_0:Int×List Claim×Int):Prop:=letI q3:=0≤s_0.1∧s_0.1< (s_0.2.1.length:Int);letI q7:=Int.toNat s_0.1;letI q1:=s_0.2.1.getD q7 default;letI q5:=if s_0.2.2<q1.litres then s_0.2.2 else q1.litres;letI q0:=s_0.2.1.set q7 ({ right:=q1.right,farm:=q1.farm,hour:=q1.hour,litres:=(i64.wrap (q1.litres - q5)),rank:=q1.rank}:Claim);letI q2:=aA q0 x q0 s_0.1;letI q4:=q0.getD q7 default;letI q6:=0≤q2∧q2< (q0.length:Int);((decide (s_0.1≥0))=true→(q3∧((q1.farm !=x.farm)=false→(q3∧(q3∧(q3∧((bD q0 x q0 s_0.1)∧(((decide (q2≥0))=true→(q6∧q6))∧((decide (q2≥0))=false→((0≤s_0.1∧s_0.1< (q0.length:Int))∧((q0++([({ right:=q4.right,farm:=x.other,hour:=q4.hour,litres:=q5,rank:=q4.rank}:Claim)])).length*40≤cU)))))))))))
def bZ (x:Judgement)(l_:List Claim):List Claim:=(match aq (bM x l_) (l_.length+1) 0 ((i64.wrap ((l_.length:Int) - 1)),l_,x.n)with| .inl x_0_0=>x_0_0| .inr s_0=>default)
def cD (x:Judgement)(l_:List Claim):Prop:=letI q0:=((i64.wrap ((l_.length:Int) - 1)),l_,x.n);letI q1:=bM x l_;(l_.length≤aL→(okI q1 (bQ x l_) (l_.length+1) 0 q0∧(∀ z_,aq q1 (l_.length+1) 0 q0≠ .inr z_)))
noncomputable def jW:List SV→List Ob→Option HCon:=pt (fun x_:Judgement×(List Claim) =>[.os 0,.agg (cellsOf .judgement x_.1)]) (fun x_=>[.row .claim x_.2]) (fun x_=>ik (cD x_.1 x_.2) (.os 1) [.dead,.row .claim (bZ x_.1 x_.2)])
@[go_sem] theorem Cs (x:Judgement)(l_:List Claim):jW ([.os 0,.agg [.v (.int .i64 x.no),.v (.int .i64 x.hour),.v (.int .i64 x.kind),.v (.int .i64 x.farm),.v (.int .i64 x.other),.v (.int .i64 x.since),.v (.int .i64 x.to),.v (.int .i64 x.n),.v (.int .i64 x.of_)]]) ([.row .claim l_])=some (ik (cD x l_) (.os 1) [.dead,.row .claim (bZ x l_)]):=lw (A:=fun x_:Judgement×(List Claim) =>[.os 0,.agg (cellsOf .judgement x_.1)]) (H:=fun x_=>[.row .claim x_.2]) (K:=fun x_=>ik (cD x_.1 x_.2) (.os 1) [.dead,.row .claim (bZ x_.1 x_.2)]) (x:=(x,l_))
theorem zq43 {l0:List Nat}(a0:JL l0){p:Prop}(h:JL l0→p:=by intro ja;simp only[go_sem,Nat.reduceBEq,Nat.reduceLeDiff,Nat.reduceLT,decide_true,Nat.reduceAdd,Nat.reduceSub,Nat.reduceMul,Int.reduceLE,Int.reduceLT,Int.reduceToNat,Int.reduceNeg,reduceCtorEq,cW];all_goals exact gT ja):p:=h a0
theorem tX:FnOkO Tryz.prog 89 (jW):=by
 have hG:ConsOk Tryz.prog (mkG [(142,fun l=>cW (bv [.sl .claim,.o] l))] []):=ap (cgc (jm.norm [.sl .claim,.o]) cg0) cg0;refine pd mixed al hG (fn:=Tryz.f89) (c:=ae Tryz.f89) kr kr kr kr fun l o con h=>?_;obtain⟨⟨x,l_⟩,rfl,rfl,rfl⟩:=jx h;clear h;try dsimp only
 refine⟨_,_,_,rfl,fun hp=>?_⟩;unfold cD at hp;refine⟨nbl rfl,(fun id st=>bif Nat.beq id 0 then some (LCV (ρ:=(List Claim)) (σ:=(Int×List Claim×Int)) 4 [] [0,1,2,3,3,0] (fun k_0 s_0=>⟨[(2,.ptr 1 0),(3,.ptr 2 0),(5,.v (.int .i64 s_0.2.2)),(6,.ptr 4 0)],[.dead,.cells [.os 5],.cells (cellsOf .judgement x),.dead,.cells [.v (.int .i64 s_0.1)],.row .claim s_0.2.1]⟩) (bM x l_) (bQ x l_) (l_.length+1) ((i64.wrap ((l_.length:Int) - 1)),l_,x.n) (fun _=>.normal) (fun x_0_0=>⟨[(2,.ptr 1 0)],[.dead,.cells [.os 5],.dead,.dead,.dead,.row .claim x_0_0]⟩) st)else none),?_,?_⟩
 ·unfold ae Tryz.f89;simp only[am,true_and,and_true,and_assoc]
  ·refine uD mixed al hG kr (fun _=>rfl) fun k_0 s_0 hq0=>⟨L0,ag _,?_⟩
   ·unfold bQ at hq0;exact NT (jl [0,1,2,3,6,5]) (jl [0,1,2,3,9,8]) (jl [0,1,2,3,4,5])
 ·unfold ae Tryz.f89;try unfold bZ
  exact zq43 (jl [0,5])
end Go.Sx
end
section
namespace Go.Sx
def T_ {α:Type}:Result α→World
 | .ok _ w=>w
 | .halt _ w=>w
theorem IF {α:Type}:∀ (a:Ask α) (w:World),w.drawn≤(w.ask a).2.drawn
 | .done a,w=>Nat.le_refl _
 | .ask what range k,w=>by
  unfold World.ask;dsimp only;split
  ·exact IF _ w
  ·exact Nat.le_trans (Nat.le_succ _) (IF _ { w with drawn:=w.drawn+1})
theorem Ua (w:World)(c:Sys):w.drawn≤(w.sys c).2.drawn:=by
 unfold World.sys;have:=IF (Kernel.perform c w.os) w;split
 ·exact Nat.le_refl _
 ·rename_i h;rw[h]at this;exact this
theorem GR {p:Program}{w w':World}{a:Addr}{v:Value}{b:Bool}{l:List Addr}(h:w.farStore p a v b=.ok (w',l)):w'.drawn=w.drawn:=by
 unfold World.farStore at h;split at h
 ·split at h
  ·rename_i r hr;cases h;unfold World.viewStore at hr;simp only[bind,Except.bind,pure,Except.pure]at hr
   repeat' split at hr
   all_goals (first|(cases hr;done) |skip)
   all_goals (cases hr;rfl)
  ·cases h
 ·cases h
theorem E_ {α:Type}(p:Program):∀ (s:Sem α) (w:World),w.drawn≤(T_ (s.run p w)).drawn:=by
 intro s;induction s with
 |pure a=>intro w;exact Nat.le_refl _
 |load m a k ih=>
  intro w;unfold Sem.run;split
  ·exact ih _ w
  ·split
   ·exact ih _ w
   ·exact Nat.le_refl _
 |store m a v k ih=>
  intro w;cases v
  case agg=>exact Nat.le_refl _
  case tuple=>exact Nat.le_refl _
  all_goals
   simp only[Sem.run];split
   ·split
    ·exact Nat.le_refl _
    ·exact ih (w.setCell a _)
   ·split
    ·rename_i h;rw[←GR h];exact ih _
    ·exact Nat.le_refl _
 |new o k ih=>intro w;exact ih w.heap.size { w with heap:=w.heap.push o}
 |shape r k ih=>intro w;exact ih _ _
 |freeze a n k ih=>
  intro w;have:(w.freeze a n).drawn=w.drawn:=by unfold World.freeze;split <;>rfl
  rw[←this];exact ih _
 |frozen a k ih=>intro w;exact ih _ _
 |getObj r k ih=>
  intro w;unfold Sem.run;split
  ·exact Nat.le_refl _
  ·exact ih _ _
  ·exact Nat.le_refl _
 |setObj r o k ih=>
  intro w;unfold Sem.run;split
  ·exact Nat.le_refl _
  ·exact ih { w with heap:=w.heap.setIfInBounds r o}
  ·exact Nat.le_refl _
 |choose q k ih=>
  intro w;unfold Sem.run;split
  ·exact ih _ _
  ·exact Nat.le_trans (Nat.le_succ _) (ih _ { w with drawn:=w.drawn+1})
 |sys c k ih=>intro w;exact Nat.le_trans (Ua w c) (ih _ _)
 |program k ih=>intro w;exact ih _ _
 |mark m k ih=>intro w;exact ih _
 |halt h=>intro w;exact Nat.le_refl _
theorem NU {α:Type}(p:Program):∀ (s:Sem α) (w:World) (es:Array Event),(s.runT p w es).1=s.run p w:=by
 intro s;induction s with
 |store m a v k ih=>
  intro w es;cases v
  case agg=>rfl
  case tuple=>rfl
  all_goals
   simp only[Sem.runT,Sem.run];split
   ·split
    ·rfl
    ·exact ih _ _
   ·split
    ·exact ih _ _
    ·rfl
 |load m a k ih=>
  intro w es;simp only[Sem.runT,Sem.run];split
  ·exact ih _ _ _
  ·split
   ·exact ih _ _ _
   ·rfl
 |getObj r k ih=>
  intro w es;simp only[Sem.runT,Sem.run];split
  ·rfl
  ·exact ih _ _ _
  ·rfl
 |setObj r o k ih=>
  intro w es;simp only[Sem.runT,Sem.run];split
  ·rfl
  ·exact ih _ _
  ·rfl
 |choose q k ih=>
  intro w es;simp only[Sem.runT,Sem.run];split
  ·exact ih _ _ _
  ·exact ih _ _ _
 |pure a=>intro w es;rfl
 |new o k ih=>intro w es;exact ih _ _ _
 |shape r k ih=>intro w es;exact ih _ _ _
 |freeze a n k ih=>intro w es;exact ih _ _
 |frozen a k ih=>intro w es;exact ih _ _ _
 |sys c k ih=>intro w es;exact ih _ _ _
 |program k ih=>intro w es;exact ih _ _ _
 |mark m k ih=>intro w es;exact ih _ _
 |halt h=>intro w es;rfl
theorem mD {α:Type}{p:Program}{s:Sem α}{w w':World}{a:α}(h:s.run p w=.ok a w'):w.drawn≤w'.drawn:=by have:=E_ p s w;rw[h]at this;exact this
theorem NV {α:Type}{p:Program}{s:Sem α}{w w':World}{a:Halt}(h:s.run p w=.halt a w'):w.drawn≤w'.drawn:=by have:=E_ p s w;rw[h]at this;exact this
theorem r8 {α:Type}{p:Program}{s:Sem α}{w:World}{es es':Array Event}{r:Result α}(h:s.runT p w es=(r,es')):w.drawn≤(T_ r).drawn:=by
 have:=NU p s w es;rw[h]at this;have h2:=E_ p s w;rw[←this]at h2;exact h2
def gLe (w:World):GStep→Prop
 | .ended .. =>True
 | .go _ w' _| .comm _ _ _ _ w' _| .spawn _ _ w' _| .count _ w' _| .timer _ _ w' _| .alone _ _ w' _| .newcoro _ _ _ w' _| .coroswitch _ _ _ w' _| .collect _ w' _| .watch _ w' _=>w.drawn≤w'.drawn
theorem gLe.after {w:World}{es:Array Event}{s:GStep}(h:gLe w s):gLe w (s.after es):=by cases s <;>exact h
theorem gLe.trans {w w':World}{s:GStep}(h1:w.drawn≤w'.drawn)(h:gLe w' s):gLe w s:=by cases s <;>first|trivial|exact Nat.le_trans h1 h
theorem yZ {c:Prop}[Decidable c]{w:World}{a b:GStep}(h1:gLe w a)(h2:gLe w b):gLe w (if c then a else b):=by split <;>assumption
theorem tG (fr:Frame)(m:String)(w:World):gLe w (endThrow fr m w):=Nat.le_refl _
theorem wN (p:Program)(fr:Frame)(v:Value)(w:World):gLe w (endPrinting p fr v w):=by
 unfold endPrinting;dsimp only;split
 ·exact tG _ _ _
 ·trivial
theorem At (p:Program)(fr:Frame)(callers:List Frame)(dying:Option Dying)(m:String)(w:World):gLe w (endFatal p fr callers dying m w):=by
 unfold endFatal
 extract_lets
 split
 ·rename_i h;exact mD h
 ·trivial
 ·trivial
theorem IG (p:Program)(fr:Frame)(d:Dying)(f:Fatal)(w:World):gLe w (writeOn p fr d f w):=by
 unfold writeOn
 extract_lets
 split
 ·trivial
 ·extract_lets
  generalize h:Sem.runT _ _ _ _=rr;obtain⟨r,es⟩:=rr;have h:=r8 h;split
  ·rename_i e;cases e;exact h
  ·rename_i e;cases e;exact h
  ·trivial
  ·trivial
theorem IH (w w':World)(fd:Nat)(t:ByteArray)(o:Outcome):gLe w (endWith w' fd t o):=by
 unfold endWith
 extract_lets
 split
 ·split <;>trivial
 ·trivial
 ·trivial
theorem Ub (p:Program)(fr:Frame)(d:Dying)(w:World):gLe w (die p fr d w):=by
 unfold die;split
 ·exact IG _ _ _ _ _
 ·split
  ·split
   ·exact Nat.le_refl _
   ·exact IH _ _ _ _ _
  ·extract_lets
   split
   ·exact Nat.le_refl _
   ·split
    ·rename_i h;exact mD h
    ·trivial
   ·split
    rename_i h;have h:=r8 h;refine gLe.after ?_;split
    all_goals first|exact h|trivial|exact gLe.trans h (wN _ _ _ _)
   ·trivial
theorem wO (p:Program)(main:Bool)(fr:Frame)(callers:List Frame)(dying:Option Dying)(v:Value)(w:World):gLe w (doReturn p main fr callers dying v w):=by
 unfold doReturn;split
 ·split
  all_goals exact Nat.le_refl _
 ·split
  ·exact Nat.le_refl _
  ·trivial
  ·split
   ·exact Nat.le_refl _
   ·split
    ·exact Nat.le_refl _
    ·trivial
theorem AN (p:Program)(fr:Frame)(callers:List Frame)(dying:Option Dying)(d:Deferred)(w:World):gLe w (callDeferred p fr callers dying d w):=by
 unfold callDeferred;refine yZ trivial ?_;rcases h:(invoke d.target d.args).runT p w #[]with⟨r,es⟩;have h:=r8 h;dsimp only;refine gLe.after ?_;split
 all_goals first|exact h|trivial|exact gLe.trans h (At _ _ _ _ _ _) |exact gLe.trans h (tG _ _ _) |skip
 split <;>exact h
theorem Lq (p:Program)(main:Bool)(fr:Frame)(callers:List Frame)(dying:Option Dying)(w:World):gLe w (unwind p main fr callers dying w):=by
 unfold unwind;split
 ·split
  rename_i h;have h:=r8 h;refine gLe.after ?_;split
  ·exact h
  ·trivial
 ·exact AN _ _ _ _ _ _
 ·split
  ·trivial
  ·split
   ·trivial
   ·split
    ·exact Nat.le_refl _
    ·split
     ·split
      ·exact Nat.le_refl _
      ·split
       ·rename_i h;exact mD h
       ·trivial
       ·trivial
     ·split
      ·exact wN _ _ _ _
      ·trivial
  ·split
   ·exact wO _ _ _ _ _ _ _
   ·split
    rename_i h;have h:=r8 h;refine gLe.after ?_;split
    ·exact gLe.trans h (wO _ _ _ _ _ _ _)
    ·trivial
    ·trivial
theorem NW (p:Program)(fr:Frame)(callers:List Frame)(dying:Option Dying)(g:Nat)(w:World):gLe w (early p fr callers dying g w):=by
 unfold early
 extract_lets refuse notYet there
 have hn:∀ w0:World,w.drawn≤w0.drawn→gLe w (notYet w0):=fun w0 h0=>by
  show gLe w (match w0.heap[g]? with|some (.pending c elem) =>_|_=>_);split
  ·exact h0
  ·trivial
 split
 ·exact hn w (Nat.le_refl _)
 ·split
  ·trivial
  ·extract_lets there
   have ht:∀ w0:World,w.drawn≤w0.drawn→gLe w (there w0):=fun w0 h0=>h0;split
   ·exact hn w (Nat.le_refl _)
   ·split
    ·exact hn w (Nat.le_refl _)
    ·split
     ·trivial
     ·exact ht w (Nat.le_refl _)
     ·trivial
     ·exact hn w (Nat.le_refl _)
     ·split
      ·exact ht w (Nat.le_refl _)
      ·split
       ·exact hn w (Nat.le_refl _)
       ·split
        ·rename_i h;exact hn _ (mD h)
        ·rename_i h;exact ht _ (mD h)
        ·trivial
theorem wP (p:Program)(listen:Bool)(fr:Frame)(callers:List Frame)(dying:Option Dying)(s:Sem Next)(w:World):gLe w (Go.stepG.apply p listen fr callers dying s w):=by
 unfold Go.stepG.apply
 extract_lets go kind
 have hr:∃ r es,(if listen=true then s.runT p w #[]else(s.run p w,#[]))=(r,es)∧w.drawn≤(T_ r).drawn:=by
  split
  ·rcases h:s.runT p w #[]with⟨r,es⟩;exact⟨r,es,rfl,r8 h⟩
  ·exact⟨_,_,rfl,E_ p s w⟩
 obtain⟨r,es,he,h⟩:=hr;rw[he];dsimp only;refine gLe.after ?_;have hgo:∀ fr w0,w.drawn≤w0.drawn→gLe w (go fr w0):=fun fr w0 h0=>h0;split
 all_goals first|exact h|trivial|exact hgo _ _ h|exact gLe.trans h (At _ _ _ _ _ _) |exact gLe.trans h (tG _ _ _) |exact gLe.trans h (NW _ _ _ _ _ _) |skip
 all_goals first|(refine yZ (gLe.trans h (tG _ _ _)) ?_;exact h) |(split <;>first|exact h|trivial|exact hgo _ _ h)
theorem QW (p:Program)(listen:Bool)(fr:Frame)(callers:List Frame)(dying:Option Dying)(w:World):gLe w (Go.stepG.oper p listen fr callers dying w):=by
 unfold Go.stepG.oper;split
 ·trivial
 ·split
  ·exact wP _ _ _ _ _ _ _
  ·exact wP _ _ _ _ _ _ _
theorem J3 {α:Type}{w:World}{o:Option α}{a:GStep}{f:α→GStep}(h1:gLe w a)(h2:∀ x,gLe w (f x)):gLe w (o.elim a f):=by cases o;exact h1;exact h2 _
theorem QX (p:Program)(main listen:Bool)(fr:Frame)(callers:List Frame)(dying:Option Dying)(w:World):gLe w (Go.stepG.exec p main listen fr callers dying w):=by
 unfold Go.stepG.exec
 extract_lets go to lost leave
 have hgo:∀ fr w0,w.drawn≤w0.drawn→gLe w (go fr w0):=fun fr w0 h0=>h0;have hto:∀ k,gLe w (to k):=fun k=>Nat.le_refl _;have hlost:∀ m,gLe w (lost m):=fun _=>trivial;have hleave:∀ j,gLe w (leave j):=fun j=>by
  show gLe w (match fr.roundOf with|none=>_|some l=>_);split
  ·refine yZ (hgo _ _ (Nat.le_refl _)) trivial
  ·rcases h:(Instr.endRound _ j).runT p w #[]with⟨r,es⟩;have h:=r8 h;dsimp only;refine gLe.after ?_;split
   ·exact gLe.trans h (wO _ _ _ _ _ _ _)
   ·trivial
 have hgo1:∀ fr,gLe w (go fr w):=fun fr=>Nat.le_refl _
 clear_value to lost leave
 split
 all_goals first|exact hleave _|exact hto _|exact hlost _|trivial|exact J3 (hleave _) hto|exact wP _ _ _ _ _ _ _|exact J3 (hlost _) (fun _=>wP _ _ _ _ _ _ _) |skip
 ·split
  ·exact hto _
  ·exact hlost _
 ·rcases h:(Instr.enterLoop fr.fn fr.tmps _ _ _ fr.roundOf).runT p w #[]with⟨r,es⟩;have h:=r8 h;dsimp only;refine gLe.after ?_;split
  ·exact gLe.trans h (wP _ _ _ _ _ _ _)
  ·trivial
 ·rcases h:(Instr.endLoop _).runT p w #[]with⟨r,es⟩;have h:=r8 h;dsimp only;refine gLe.after ?_;split
  ·exact hgo _ _ h
  ·exact hgo _ _ h
  ·trivial
 ·refine yZ (hto _) ?_;split
  ·rename_i h;exact hgo _ _ (mD h)
  ·trivial
 ·exact yZ (QW _ _ _ _ _ _) (hgo1 _)
theorem NX (p:Program)(main:Bool)(g:Goroutine)(w:World)(listen:Bool):gLe w (Go.stepG p main g w listen):=by
 unfold Go.stepG;obtain⟨fr,callers,st,dying,off⟩:=g;dsimp only;split
 ·exact Ub _ _ _ _
 ·exact QX _ _ _ _ _ _ _
 ·exact Lq _ _ _ _ _ _
def sLe (w:World):Stepped→Prop
 | .next m=>w.drawn≤m.world.drawn
 | .ended .. =>True
theorem sLe.trans {w w':World}{s:Stepped}(h1:w.drawn≤w'.drawn)(h:sLe w' s):sLe w s:=by cases s <;>first|trivial|exact Nat.le_trans h1 h
theorem J4 {c:Prop}[Decidable c]{w:World}{a b:Stepped}(h1:sLe w a)(h2:sLe w b):sLe w (if c then a else b):=by split <;>assumption
theorem J5 (p:Program)(gs:Array Goroutine)(rest:Rest)(w:World):sLe w (look p gs rest w):=by
 unfold look;split
 ·extract_lets
  refine J4 trivial ?_;split
  ·trivial
  ·extract_lets
   split
   ·rename_i h;have h:=mD h;exact h
   ·trivial
   ·trivial
 ·trivial
theorem Fa {rest:Rest}{cases:Array CommCase}{w w':World}(h:waitingAt rest cases w=some w'):w.drawn≤w'.drawn:=by
 unfold waitingAt at h;split at h
 ·split at h
  ·cases h;exact Nat.le_refl _
  ·cases h
 ·cases h;exact Nat.le_refl _
theorem Ct (p:Program)(rest:Rest)(gs:Array Goroutine)(i:Nat)(g:Goroutine)(cases:Array CommCase)(bl:Bool)(shape:CommShape)(w:World):sLe w (communicate p rest gs i g cases bl shape w).1:=by
 unfold communicate
 extract_lets put illMade me other
 have hput:∀ g gs w0 ops,w.drawn≤w0.drawn→sLe w (put g gs w0 ops).1:=fun _ _ _ _ h=>h;split
 ·trivial
 ·split
  ·split
   ·split
    ·rename_i h;exact Fa h
    ·trivial
   ·exact hput _ _ _ _ (Nat.le_refl _)
  ·split
   ·trivial
   ·rename_i h;have hw:=mD h;clear h
    extract_lets r
    split
    ·split
     ·rename_i h2;exact hput _ _ _ _ (Nat.le_trans hw (NV h2))
     ·trivial
    ·exact hput _ _ _ _ hw
    ·exact hput _ _ _ _ hw
    ·extract_lets
     split
     ·exact hput _ _ _ _ hw
     ·split
      ·rename_i h2;have h3:=mD h2;exact hput _ _ _ _ (Nat.le_trans hw h3)
      ·trivial
    ·exact hput _ _ _ _ hw
    ·exact hput _ _ _ _ hw
    ·trivial
theorem D1 (m:Machine)(k:Nat)(t:Timer)(a b:Nat):m.world.drawn≤(retime m k t a b).2.world.drawn:=by
 unfold retime drain;dsimp only
 repeat' split
 all_goals first|exact Nat.le_refl _|skip
 all_goals (simp_all;try omega)
theorem II {m m':Machine}{op:TimerOp}{v:Value}(h:timerOp m op=.ok (v,m')):m.world.drawn≤m'.world.drawn:=by
 have named:∀ (D:Nat) (m0:Machine) var f,(∀ k t,D≤(f k t).2.world.drawn)→timerOp.named m0 var f=.ok (v,m')→D≤m'.world.drawn:=fun D m0 var f hf h=>by
  unfold timerOp.named at h;split at h
  ·injection h with h;exact Nat.le_trans (hf _ _) (Nat.le_of_eq (congrArg (fun x:Value×Machine=>x.2.world.drawn) h))
  ·cases h
 unfold timerOp at h;split at h
 ·split at h
  ·cases h;exact Nat.le_refl _
  ·split at h
   ·split at h
    ·cases h
    ·cases h;exact Nat.le_refl _
   ·cases h
 ·exact named _ _ _ _ (fun k t=>D1 _ _ _ _ _) h
 ·split at h
  ·rename_i m1 ho;have h1:m.world.drawn≤m1.world.drawn:=by
    unfold timerOp.opened at ho;split at ho
    ·split at ho
     ·cases ho;exact Nat.le_refl _
     ·cases ho
    ·cases ho;exact Nat.le_refl _
   exact Nat.le_trans h1 (named m1.world.drawn _ _ _ (fun k t=>D1 _ _ _ _ _) h)
  ·cases h
 ·cases h;exact Nat.le_refl _
theorem NY (p:Program)(m:Machine)(i:Nat)(listen:Bool):sLe m.world (Go.runT p m i listen).1:=by
 unfold Go.runT
 extract_lets rest world
 split
 extract_lets wake fn pos s ops done
 have hs:gLe m.world s:=NX _ _ _ _ _;have hd:∀ r,(done r).1=r:=fun r=>rfl
 clear_value s done
 split
 all_goals try rw[hd]
 ·trivial
 ·split
  rename_i h;have:=Ct p rest ‹_› i ‹_› ‹_› ‹_› ‹_› ‹_›;rw[h]at this;exact sLe.trans hs this
 ·exact hs
 ·exact hs
 ·exact J4 trivial hs
 ·exact hs
 ·exact sLe.trans hs (J5 _ _ _ _)
 ·exact hs
 ·exact hs
 ·split
  ·exact hs
  ·split
   ·rename_i h;simp only[endThrow,dieOf]at h;cases h;exact hs
   ·trivial
  ·trivial
 ·split
  ·rename_i h;exact Nat.le_trans hs (II h)
  ·exact hs
  ·trivial
  ·trivial
theorem NZ (p:Program)(m:Machine)(k:Nat):sLe m.world (serve p m k):=by
 unfold serve;split
 ·trivial
 ·exact Nat.le_refl _
 ·extract_lets
  split
  ·trivial
  ·exact Nat.le_refl _
def mLe (w:World):Move→Prop
 | .goroutine m _=>w.drawn≤m.world.drawn
 | .machine s _=>sLe w s
theorem mLe.trans {w w':World}{s:Move}(h1:w.drawn≤w'.drawn)(h:mLe w' s):mLe w s:=by
 cases s
 ·exact Nat.le_trans h1 h
 ·exact sLe.trans h1 h
theorem Cu (p:Program)(m:Machine):mLe m.world (askOn p m):=by
 unfold askOn
 extract_lets mono rs ds pick
 have hpick:∀ m0:Machine,m.world.drawn≤m0.world.drawn→mLe m.world (pick m0):=fun m0 h0=>by
  show mLe m.world (match (choose (.sched rs.length)).run p m0.world with| .halt _ w=>_| .ok k world=>_);split
  ·trivial
  ·rename_i h;have h1:=mD h;split
   ·exact Nat.le_trans h0 h1
   ·split
    ·trivial
    ·rename_i h2;have h2:=mD h2;exact Nat.le_trans h0 (Nat.le_trans h1 h2)
 clear_value pick rs ds
 split
 ·trivial
 ·rename_i h;have hw:=mD h;clear h
  extract_lets m1
  split
  ·exact sLe.trans hw (NZ p _ _)
  ·cases rs with
   |nil=>
    dsimp only;split
    ·exact hw
    ·split
     ·exact hw
     ·split <;>trivial
   |cons r rs=>
    dsimp only;split
    ·exact hpick _ hw
    ·split
     ·trivial
     ·rename_i h;have h2:=mD h;exact hpick _ (Nat.le_trans hw h2)
     ·rename_i h;have h2:=mD h;exact Nat.le_trans hw h2
     ·rename_i h;have h2:=mD h;exact hpick _ (Nat.le_trans hw h2)
theorem GS (p:Program)(m:Machine):mLe m.world (ask p m):=by
 unfold ask;split
 ·split
  ·trivial
  ·rename_i h;have hw:=mD h;have:=J5 p m.gs m.rest ‹World›;split
   ·rename_i m2 h2;rw[h2]at this;exact mLe.trans (Nat.le_trans hw this) (Cu p _)
   ·rename_i e h2;exact sLe.trans hw this
  ·rename_i h;have hw:=mD h;exact mLe.trans hw (Cu p _)
 ·exact Cu p m
theorem QY (p:Program)(m:Machine):mLe m.world (move p m):=by
 unfold move;split
 ·split
  ·exact Nat.le_refl _
  ·trivial
 ·split
  ·split
   ·exact Nat.le_refl _
   ·exact GS p _
  ·exact GS p m
theorem QZ (p:Program)(m:Machine):sLe m.world (step p m):=by
 unfold step stepT;have:=QY p m;split
 ·rename_i h;rw[h]at this;exact sLe.trans this (NY p _ _ _)
 ·rename_i h;rw[h]at this;exact this
theorem GU {p:Program}{m m':Machine}(h:Steps p m m'):m.world.drawn≤m'.world.drawn:=by
 obtain⟨n,hn⟩:=h;induction n generalizing m with
 |zero=>simp only[runN,Stepped.next.injEq]at hn;subst hn;exact Nat.le_refl _
 |succ n ih=>
  simp only[runN]at hn;have:=QZ p m;cases hs:step p m with
  |next m1=>
   rw[hs]at hn this;exact Nat.le_trans this (ih hn)
  |ended o w=>rw[hs]at hn;cases hn
theorem GV {P:Program}{f:FuncId}{args:Array Value}{w:World}{R:Ending→World→Prop}(h:Calls P f args w R):Calls P f args w fun e w'=>R e w'∧(e≠ .outgrown→w.drawn≤w'.drawn):=by
 intro cs;obtain⟨e,w',fr,hr,hc,hf,hl⟩:=h cs;refine⟨e,w',fr,⟨hr,fun hne=>?_⟩,hc,hf,hl⟩;cases e with
 |returned v=>exact GU (p:=P) hc
 |panicked c=>exact GU (p:=P) hc
 |outgrown=>exact absurd rfl hne
end Go.Sx
end
section
namespace Go.Sx
open Go.Lib Go.Proofs Go.RowKit Go.Shelf Go.Sort
def Yn:SV→Value
 | .v x=>x
 |_=>undef
def r9 (k:Tag)(x:k.T):List Value:=(cellsOf k x).map Yn
def Fb (k:Tag):Prop:= ∀ (x:k.T) (s:SV),s∈cellsOf k x→∃ v,s=.v v∧v.oneCell'=true
def srt {α:Type}(cf:α→α→Int)(l:List α):List α:=l.mergeSort fun x y=>!(ltOf cf y x)
def apart {α:Type}(cf:α→α→Int)(l:List α):Prop:= ∀ x∈l,∀ y∈l,ltOf cf x y=false→ltOf cf y x=false→x=y
theorem IJ {α:Type}[Inhabited α]{cf:α→α→Int}(hO:SWO (ltOf cf)){l:List α}(h:apart cf l){d':Array α}(hp:PermIn 0 l.toArray.size l.toArray d')(hs:SortedIn (ltOf cf) 0 l.toArray.size d'):d'=(srt cf l).toArray:=by
 obtain⟨hsz,_,hperm⟩:=hp;have e1:d'.extract 0 l.toArray.size=d':=by rw[←hsz];exact Array.extract_size
 rw[e1,Array.extract_size]at hperm;have hperm:d'.toList.Perm l:=by simpa using hperm
 have:d'.toList=srt cf l:=by
  refine List.Perm.eq_of_pairwise (le:=fun x y=>(!ltOf cf y x)=true) ?_ ?_ ?_ (hperm.trans (List.mergeSort_perm _ _).symm)
  ·intro a b ha hb h1 h2;simp only[Bool.not_eq_true']at h1 h2;exact h a (hperm.subset ha) b ((List.mergeSort_perm _ _).subset hb) h2 h1
  ·rw[List.pairwise_iff_getElem];intro i j hi hj hij;have:=hs i j (Nat.zero_le _) hij (by simp only[List.size_toArray]at hsz ⊢;simp only[Array.length_toList]at hj;omega);simp only[Array.length_toList]at hi hj;rw[getElem!_pos d' i hi,getElem!_pos d' j hj]at this;simpa using this
  ·refine List.pairwise_mergeSort (fun a b c h1 h2=>?_) (fun a b=>?_) l
   ·simp only[Bool.not_eq_true']at h1 h2 ⊢;exact hO.ntrans c b a h2 h1
   ·simp only[Bool.or_eq_true,Bool.not_eq_true'];cases h1:ltOf cf b a with
    |false=>exact .inl rfl
    |true=>
     right;cases h2:ltOf cf a b with
     |false=>rfl
     |true=>
      have h3:=hO.trans a b a h2 h1;rw[hO.irrefl]at h3;cases h3
 rw[←this]
section
variable {P:Program}{ρ:Ren}{F:Nat→Prop}{own:Own}{w:World}{k:Tag}
theorem Lr (hk:Fb k){l:List k.T}{o:Nat}{cs:Array Value}(h:RowAt F own w k l o cs){i j:Nat}(hi:i<l.length)(hj:j<aa k):cs[o+i*aa k+j]? =(r9 k l[i])[j]?:=by
 have e1:=List.getElem?_eq_getElem hi;have hlen:j< (cellsOf k l[i]).length:=by rw[a7];exact hj
 have e2:=List.getElem?_eq_getElem hlen;obtain⟨u,h1,h2⟩:=h i _ e1 j _ e2;obtain⟨v,h3,_⟩:=hk l[i] _ (List.getElem_mem hlen);rw[h1];unfold r9;rw[List.getElem?_map,e2];rw[h3]at h2 ⊢;rw[br h2];rfl
theorem Ls (hk:Fb k){l:List k.T}{o:Nat}{cs:Array Value}(h:∀ i j,(hi:i<l.length)→j<aa k→cs[o+i*aa k+j]? =(r9 k l[i])[j]?):RowAt F own w k l o cs:=by
 intro i x hi j s hj;obtain⟨hl,rfl⟩:=List.getElem?_eq_some_iff.1 hi;have hlen:=(List.getElem?_eq_some_iff.1 hj).1;rw[a7]at hlen;have:=h i j hl hlen;unfold r9 at this;rw[List.getElem?_map,hj]at this;obtain⟨v,h3,_⟩:=hk _ s (List.mem_of_getElem? hj);subst h3;exact⟨v,this,.v v⟩
theorem Q0 {w w':World}(hb:Go.RowKit.Below w.heap.size w w')(hd:w.drawn≤w'.drawn):∃ q os,w'=grow (w.drewN q) os:=by
 refine⟨w'.drawn - w.drawn,w'.heap.extract w.heap.size w'.heap.size,?_⟩;obtain⟨h1,h2,h3,h4,h5⟩:=hb;obtain⟨heap,tape,drawn,os,output⟩:=w;obtain⟨heap',tape',drawn',os',output'⟩:=w';simp only at h1 h2 h3 h4 h5 hd;subst h1;subst h2;subst h3;unfold grow World.drewN;simp only[World.mk.injEq,true_and,and_true];refine⟨?_,by omega⟩;apply Array.ext
 ·simp;omega
 ·intro i hi1 hi2;by_cases hi:i<heap.size
  ·rw[Array.getElem_append_left hi];have:=h5 i hi;rw[Array.getElem?_eq_getElem hi1,Array.getElem?_eq_getElem hi]at this;exact Option.some.inj this
  ·rw[Array.getElem_append_right (by omega)];simp only[Array.getElem_extract];congr 1;omega
end
section
variable {P:Program}{ρ:Ren}{k:Tag}
theorem N0 {w:World}{b:Nat}{cs:Array Value}{ty:TypeId}(hb:w.heap[b]? =some (.cells cs ty (0,0)))(D:Array Value)(o:Nat):(putRow id w b o D).heap[b]? =some (.cells (putCells id o D cs) ty (0,0)):=by
 unfold putRow mapBlock;simp only[Array.getElem?_modify,if_true,hb];rfl
theorem GW {w:World}{b c:Nat}(hc:c≠b)(D:Array Value)(o:Nat):(putRow id w b o D).heap[c]? =w.heap[c]?:=by
 unfold putRow mapBlock;simp only[Array.getElem?_modify];rw[if_neg (fun e=>hc e.symm)]
theorem Fc {D cs:Array Value}{o t:Nat}(ht:t<D.size)(hs:o+t<cs.size):(putCells id o D cs)[o+t]? =D[t]?:=by
 unfold putCells;rw[Array.getElem?_mapIdx,Array.getElem?_eq_getElem hs];simp only[Option.map_some];rw[if_pos (by omega),Array.getElem?_eq_getElem ht];have:o+t - o=t:=by omega
 rw[this,getElem!_pos D t ht];rfl
theorem GX {α:Type}[Inhabited α]{enc:α→List Value}{n:Nat}(hn:∀ x,(enc x).length=n){d:Array α}{i j:Nat}(hi:i<d.size)(hj:j<n):(flatK enc n d)[i*n+j]? =(enc d[i]!)[j]?:=by
 have hlt:i*n+j<d.size*n:=by
  have:=Nat.mul_le_mul_right n (show i+1≤d.size from hi);rw[Nat.succ_mul]at this;omega
 have h1:i*n+j< (flatK enc n d).size:=by rw[size_flatK];exact hlt
 rw[Array.getElem?_eq_getElem h1,←getElem!_pos (flatK enc n d) _ h1,get_flatK enc n d _ hlt];have hd:(i*n+j) / n=i:=by
  rw[Nat.mul_comm,Nat.mul_add_div (by omega),Nat.div_eq_of_lt hj];omega
 have hm:(i*n+j) % n=j:=by
  rw[Nat.mul_comm,Nat.mul_add_mod,Nat.mod_eq_of_lt hj]
 rw[hd,hm];have hj':j< (enc d[i]!).length:=by rw[hn];exact hj
 rw[List.getElem?_eq_getElem hj',getElem!_pos (enc d[i]!) j hj']
theorem sw_b {α:Type}[Inhabited α]{enc:α→List Value}{n b o m:Nat}{w:World}{cs:Array Value}{ty:TypeId}(hb:w.heap[b]? =some (.cells cs ty (0,0)))(d:Array α)(os:Array Obj):(sortWorldK enc n w b o m d os).heap[b]? =some (.cells (putCells id o (flatK enc n d) cs) ty (0,0)):=by
 have hlt:b<w.heap.size:=(Array.getElem?_eq_some_iff.1 hb).1;unfold sortWorldK grow;simp only;rw[Array.getElem?_append_left (by unfold putRowK putRow mapBlock Sort.ahead;simpa using hlt)];exact N0 (w:=Sort.ahead w m) hb _ _
theorem R8 {α:Type}[Inhabited α]{enc:α→List Value}{n b o m c:Nat}{w:World}(hc:c<w.heap.size)(hne:c≠b)(d:Array α)(os:Array Obj):(sortWorldK enc n w b o m d os).heap[c]? =w.heap[c]?:=by
 unfold sortWorldK grow;simp only;rw[Array.getElem?_append_left (by unfold putRowK putRow mapBlock Sort.ahead;simpa using hc)];exact GW (w:=Sort.ahead w m) hne _ _
theorem Fd {α:Type}[Inhabited α]{enc:α→List Value}{n b o m:Nat}{w:World}(d:Array α)(os:Array Obj):w.heap.size≤(sortWorldK enc n w b o m d os).heap.size:=by
 unfold sortWorldK grow putRowK putRow mapBlock Sort.ahead;simp
end
open Classical in
noncomputable def D2 (k:Tag)(g:FuncId)(caps:List SV)(cf:k.T→k.T→Int):List SV→List Ob→Option HCon:=fun l h=>
 QN k (fun l0=>match l with
  | [s0,.v (.int .i64 z),.v (.int .i64 n),.v (.int .i64 lim),f] =>if s0=.os 0∧f=.fn g [] caps then some (ik (z=0∧n=(l0.length:Int)∧0≤lim∧lim<4611686018427387904∧apart cf l0) (.tup []) [.row k (srt cf l0)])else none
  |_=>none) h
@[go_sem] theorem N1 {k:Tag}{g:FuncId}{caps:List SV}{cf:k.T→k.T→Int}{l0:List k.T}{z n lim:Int}:D2 k g caps cf [.os 0,.v (.int .i64 z),.v (.int .i64 n),.v (.int .i64 lim),.fn g [] caps] [.row k l0]=some (ik (z=0∧n=(l0.length:Int)∧0≤lim∧lim<4611686018427387904∧apart cf l0) (.tup []) [.row k (srt cf l0)]):=by
 simp[D2,QN]
theorem Q1 {k:Tag}{g:FuncId}{caps:List SV}{cf:k.T→k.T→Int}{l:List SV}{h:List Ob}{c:HCon}(e:D2 k g caps cf l h=some c):∃ (z n lim:Int) (l0:List k.T),l=[.os 0,.v (.int .i64 z),.v (.int .i64 n),.v (.int .i64 lim),.fn g [] caps]∧h=[.row k l0]∧c=ik (z=0∧n=(l0.length:Int)∧0≤lim∧lim<4611686018427387904∧apart cf l0) (.tup []) [.row k (srt cf l0)]:=by
 unfold D2 at e;obtain⟨l0,hh,hK⟩:=NI e;split at hK
 ·rename_i s0 z n lim f;split at hK
  ·rename_i hq;obtain⟨rfl,rfl⟩:=hq;exact⟨z,n,lim,l0,rfl,hh,(Option.some.inj hK).symm⟩
  ·cases hK
 ·cases hK
section
variable {P:Program}{ρ:Ren}{k:Tag}
theorem Lt {α:Type}[Inhabited α](L:SlLaysF0.n14 P ρ)(k:Nat)(aE:∀ w,(isAgg (ρ.t 24)).run P w=.ok true w)(zE:∀ w,(Go.sizeOf (ρ.t 24)).run P w=.ok k w)(enc:α→List Value)(hk:∀ x,(enc x).length=k)(h1:∀ x,∀ v∈enc x,v.oneCell'=true)(cf:α→α→Int)(hO:SWO (ltOf cf))(g:Nat)(cb:Array Value)(blk off cap:Nat)(d:Array α)(w:World)
  (eg:∀ args w,(callFunc g args).run P w=.ok (.enter g args) w) (hcmp:CmpLays P g cb enc k cf blk off d.size w) (hH:HoldsK enc k w blk off d) (hblk:blk<w.heap.size) (hsz:d.size<4611686018427387904) {lim:Nat} (hlim:lim<4611686018427387904):
  Calls P (ρ.f 14) #[.slice (some ⟨blk,off,none⟩) d.size cap,.int .i64 0,.int .i64 (d.size:Int),.int .i64 (lim:Int),.func (.func g) #[] cb] w fun e w'=>
   e=.returned (.tuple #[])∧∃ d' n os,PermIn 0 d.size d d'∧SortedIn (ltOf cf) 0 d.size d'∧w'=sortWorldK enc k w blk off n d' os:=by
 have hp:=AnyQ.pdqsortCmpFunc_all (P:=P) (ρ:=ρ) L k aE zE enc cf g cb hO blk off cap d w eg hcmp ⟨hk,h1,hH,hblk⟩ (d.size+1) 0 d.size lim d w (by omega) rfl (SWK.start hH) (Nat.zero_le _) (Nat.le_refl _) hsz hlim (Or.inl rfl);refine hp.mono fun e w' he=>?_;obtain⟨rfl,n,os,rfl⟩:=he;have h:=pdq_sorts (ltOf cf) hO d 0 d.size lim true true (Nat.zero_le _) (Nat.le_refl _) (Or.inl rfl);exact⟨rfl,_,n,os,h.1,h.2,rfl⟩
theorem Uc (L:SlLaysF0.n14 P ρ)(aE:∀ w,(isAgg (ρ.t 24)).run P w=.ok true w)(zE:∀ w,(Go.sizeOf (ρ.t 24)).run P w=.ok (aa k) w)(hk:Fb k)(h0:0<aa k){g:FuncId}{caps:List SV}{C:List SV→Option Con}(hC:FnOk P g C){cf:k.T→k.T→Int}
  (hcf:∀ x y,C (.agg (cellsOf k x):: .agg (cellsOf k y)::caps)=some (.det True (.v (.int .i64 (cf x y))))) (hO:SWO (ltOf cf)) (hpf:∀ s∈caps,PF s) (hcf0:∃ x y,C (.agg (cellsOf k x):: .agg (cellsOf k y)::caps)=some (.det True (.v (.int .i64 (cf x y))))):FnOkO P (ρ.f 14) (D2 k g caps cf):=by
 haveI:Inhabited k.T:=⟨ff k⟩
 refine⟨fun l h c hc args w=>L.f14.enters rfl args w,fun l h c hc hp F own w vs hHp hvs=>?_⟩;obtain⟨z,n,lim,l0,rfl,hh,hK⟩:=Q1 hc;clear hc;subst hh;subst hK;obtain⟨rfl,rfl,hl0,hl1,hp⟩:=hp;obtain⟨hsz,hrel⟩:=hvs;have r0:=hrel 0 _ rfl;have r1:=hrel 4 _ rfl;have q1:=br (hrel 1 _ rfl);have q2:=br (hrel 2 _ rfl);have q3:=br (hrel 3 _ rfl);have hvs2:vs= #[vs.getD 0 undef,.int .i64 0,.int .i64 (l0.length:Int),.int .i64 lim,vs.getD 4 undef]:=by
  apply Array.ext
  ·simpa using hsz
  ·intro i h1 h2;simp only[List.length_cons,List.length_nil]at hsz;match i,h1,h2 with
   |0,h1,_=>simp[Array.getD,h1]
   |1,h1,_=>rw[←q1];simp[Array.getD,h1]
   |2,h1,_=>rw[←q2];simp[Array.getD,h1]
   |3,h1,_=>rw[←q3];simp[Array.getD,h1]
   |4,h1,_=>simp[Array.getD,h1]
   |i+5,h1,_=>omega
 clear q1 q2 q3;generalize vs.getD 0 undef=v0 at r0 hvs2;generalize vs.getD 4 undef=v1 at r1 hvs2;subst hvs2;obtain⟨hd,o0,rfl,_⟩:=iE r0;obtain⟨hd',o0',hrow⟩:=hHp.at (id:=0) (o:=.row k l0) rfl rfl;rw[o0]at o0';cases o0';have hrow:RowRel F own w k l0 hd.v hd.bs:=hrow;cases r1 with
 | @fn _ _ _ us cs s1 s2 c1 c2=>
 have hus:us= #[]:=Array.eq_empty_of_size_eq_zero (by simpa using s1);subst hus;rcases hrow with⟨a,e1,rfl,e2⟩ | ⟨b,o,cap,cells,ty,e1,e2,e3,e4,e5,e6,e7⟩
 ·rw[e1];refine(AnyF.pdqsortCmpFunc_none L a 0 lim _ w).mono fun e w' he=>?_;obtain⟨rfl,rfl⟩:=he;refine⟨(),own,trivial,⟨_,rfl,.tup rfl fun j s hj=>by simp at hj⟩,?_,Fr.refl _,Nat.le_refl _⟩;have:srt cf ([]:List k.T)=[]:=by simp[srt]
  rw[this];exact hHp
 ·have hbown:b∈hd.bs:=by rw[e2];simp
  have hbw:b<w.heap.size:=hHp.lt 0 hd b o0 hbown;have hkl:∀ x:k.T,(r9 k x).length=aa k:=fun x=>by unfold r9;rw[List.length_map,a7]
  have hone:∀ x:k.T,∀ v∈r9 k x,v.oneCell'=true:=fun x v hv=>by
   unfold r9 at hv;rw[List.mem_map]at hv;obtain⟨s,hs,rfl⟩:=hv;obtain⟨v,rfl,h1⟩:=hk x s hs;exact h1
  have eg:∀ args w,(callFunc g args).run P w=.ok (.enter g args) w:=fun args w=>by
   obtain⟨x,y,hxy⟩:=hcf0;exact hC.enter _ _ hxy args w
  have hown:∀ id h2,own id=some h2→id=0:=fun id h2 e=>by have:=hHp.dom id h2 e;simpa using this
  have hH:HoldsK (r9 k) (aa k) w b o l0.toArray:=by
   intro t ht;rw[size_flatK]at ht;simp only[List.size_toArray]at ht;have hi:t / aa k<l0.length:=Nat.div_lt_of_lt_mul (by rw[Nat.mul_comm];exact ht);have hj:=Nat.mod_lt t h0;have ht':t=t / aa k*aa k+t % aa k:=(Nat.div_add_mod' t _).symm;have q1:=Lr hk e7 hi hj;have q2:=GX (enc:=r9 k) hkl (d:=l0.toArray) (i:=t / aa k) (j:=t % aa k) (by simpa using hi) hj;rw[←ht']at q2;rw[Nat.add_assoc,←ht']at q1;have hl0:l0.toArray[t / aa k]! =l0[t / aa k]:=by rw[getElem!_pos l0.toArray _ (by simpa using hi)];rfl
   rw[hl0]at q2;have hlt:t< (flatK (r9 k) (aa k) l0.toArray).size:=by rw[size_flatK];simpa using ht
   constructor
   ·unfold World.cell?;rw[e3];dsimp only;rw[q1,←q2,Array.getElem?_eq_getElem hlt,getElem!_pos _ t hlt];rfl
   ·unfold World.frozen?;rw[e3];simp
  have hcmp:CmpLays P g cs (r9 k) (aa k) cf b o l0.toArray.size w:=by
   intro m os dk hdk x y;generalize hW:sortWorldK (r9 k) (aa k) w b o m dk os=W;have hcar:Carries F own w F own W:=⟨fun _ h2 e=>⟨h2,e,.refl _⟩,fun c hc hn=>⟨hn,by
    rw[←hW];exact R8 hc (fun e=>hn (.inr ⟨0,hd,o0,e▸hbown⟩)) _ _⟩⟩
   have henc:∀ z:k.T,Rel (fun _=>False) b_ W (.agg (cellsOf k z)) (.agg (r9 k z).toArray):=fun z=>by
    refine .agg (by simp[r9]) fun j s hj=>?_;obtain⟨v,rfl,_⟩:=hk z s (List.mem_of_getElem? hj);have:(r9 k z).toArray.getD j undef=v:=by
     unfold r9;rw[Array.getD_eq_getD_getElem?,List.getElem?_toArray,List.getElem?_map,hj];rfl
    rw[this];exact .v v
   have hcall:=GV (hC.calls _ _ (hcf x y) trivial (fun _=>False) W (#[.agg (r9 k x).toArray,.agg (r9 k y).toArray]++cs) (fun _ h=>h.elim) ⟨by simp[c1];omega,fun j s hj=>by
    match j,hj with
    |0,hj=>
     cases hj;rw[Array.getD_eq_getD_getElem?,Array.getElem?_append_left (by simp)];exact henc x
    |1,hj=>
     cases hj;rw[Array.getD_eq_getD_getElem?,Array.getElem?_append_left (by simp)];exact henc y
    |j+2,hj=>
     have hj:caps[j]? =some s:=hj;have:=((c2 j s hj).carry hcar).over (hpf s (List.mem_of_getElem? hj)) (F':=fun _=>False) (own':=b_) fun _ _ h=>by
      rcases h with h| ⟨_,_,h,_⟩
      ·exact h
      ·cases h
     have e:(#[Value.agg (r9 k x).toArray,.agg (r9 k y).toArray]++cs).getD (j+2) undef=cs.getD j undef:=by
      rw[Array.getD_eq_getD_getElem?,Array.getD_eq_getD_getElem?,Array.getElem?_append_right (by simp)];simp
     rw[e];exact this⟩)
   refine hcall.mono fun e w' hq=>?_;obtain⟨he,hdr⟩:=hq;rcases he with⟨s,u,own',hs,rfl,hh,hb⟩ | ⟨z,hz,_⟩
   ·simp only[da]at hs;subst hs;have:=hh.val;simp only[wp]at this;rw[br this];exact⟨rfl,Q0 hb (hdr (by simp))⟩
   ·exact hz.elim
  have hall:=Lt L (aa k) aE zE (r9 k) hkl hone cf hO g cs b o cap l0.toArray w eg hcmp hH hbw (by unfold aL at e6;simp only[List.size_toArray];omega) (lim:=lim.toNat) (by omega);rw[Int.toNat_of_nonneg hl0]at hall;rw[e1];refine hall.mono fun e w' he=>?_;obtain⟨rfl,d',n,os,hpm,hst,rfl⟩:=he;have hd':=IJ hO hp hpm hst;subst hd';have hlS:(srt cf l0).length=l0.length:=List.length_mergeSort _;generalize srt cf l0=lS at hlS;have hsb:=sw_b (enc:=r9 k) (n:=aa k) (o:=o) (m:=n) e3 lS.toArray os;refine⟨(),own,trivial,⟨_,rfl,.tup rfl fun j s hj=>by simp at hj⟩,?_,?_,Nat.le_refl _⟩
  ·refine⟨hHp.dom,fun c hc=>Nat.lt_of_lt_of_le (hHp.foreign c hc) (Fd _ _),hHp.apart,hHp.inj,fun i h2 c e hc=>Nat.lt_of_lt_of_le (hHp.lt i h2 c e hc) (Fd _ _),fun i hi=>?_⟩;match i,hi with
   |0,_=>
    refine⟨hd,o0,?_⟩;show RowRel F own _ k lS hd.v hd.bs;refine .inr ⟨b,o,cap,_,ty,by rw[hlS];exact e1,e2,hsb,?_,by omega,by omega,Ls hk fun i j hi hj=>?_⟩
    ·unfold putCells;simpa using e4
    ·have hlt:i*aa k+j< (flatK (r9 k) (aa k) lS.toArray).size:=by
      rw[size_flatK];have:=Nat.mul_le_mul_right (aa k) (show i+1≤lS.length from hi);rw[Nat.succ_mul]at this;simp only[List.size_toArray];omega
     have hle:o+(i*aa k+j) <cells.size:=by
      rw[size_flatK]at hlt;simp only[List.size_toArray]at hlt;have:=Nat.mul_le_mul_right (aa k) (show lS.length≤cap by omega);omega
     rw[Nat.add_assoc,Fc hlt hle,GX hkl (by simpa using hi) hj];have:lS.toArray[i]! =lS[i]:=by rw[getElem!_pos lS.toArray _ (by simpa using hi)];rfl
     rw[this]
   |i+1,hi=>rw[qN (by simp)]at hi;cases hi
  ·refine⟨fun _ h2 e=>⟨h2,e,.refl _⟩,(Fr.refl { w:=w,own:=own}).base,rfl,rfl,rfl,Fd _ _,fun c hc=>?_⟩;exact R8 hc.1 (fun e=>hc.2 ⟨0,hd,o0,e▸hbown⟩) _ _
end
end Go.Sx
end
section
namespace Go.Proofs
open Go.Shelf
def Tryz.sortLk_ren:Go.Shelf.Ren:=⟨fun|15=>144|14=>143|28=>199|29=>200|20=>191|21=>192|22=>193|23=>194|24=>195|25=>196|26=>197|27=>198|46=>224|47=>225|48=>226|49=>227|50=>228|57=>252|n=>n,fun|22=>32|24=>68|25=>119|3=>3|39=>211|0=>0|53=>262|55=>120|4=>4|46=>256|45=>255|50=>133|5=>5|9=>9|66=>277|70=>281|76=>296|77=>297|n=>n,fun|n=>n⟩
theorem Tryz.sortLk:Go.Proofs.SlLaysF0.n14 Tryz.prog Tryz.sortLk_ren:= {
 mixed:=by kernel_rfl
 f14:=⟨Tryz.f143.name,by decide,Tryz.func143.trans (congrArg some (by kernel_rfl))⟩
 f15:=Tryz.func144.trans (congrArg some (by kernel_rfl))
 f20:=⟨Tryz.f191.name,by decide,Tryz.func191.trans (congrArg some (by kernel_rfl))⟩
 f21:=⟨Tryz.f192.name,by decide,Tryz.func192.trans (congrArg some (by kernel_rfl))⟩
 f22:=⟨Tryz.f193.name,by decide,Tryz.func193.trans (congrArg some (by kernel_rfl))⟩
 f23:=⟨Tryz.f194.name,by decide,Tryz.func194.trans (congrArg some (by kernel_rfl))⟩
 f24:=⟨Tryz.f195.name,by decide,Tryz.func195.trans (congrArg some (by kernel_rfl))⟩
 f25:=⟨Tryz.f196.name,by decide,Tryz.func196.trans (congrArg some (by kernel_rfl))⟩
 f26:=⟨Tryz.f197.name,by decide,Tryz.func197.trans (congrArg some (by kernel_rfl))⟩
 f27:=⟨Tryz.f198.name,by decide,Tryz.func198.trans (congrArg some (by kernel_rfl))⟩
 f28:=Tryz.func199.trans (congrArg some (by kernel_rfl))
 f29:=Tryz.func200.trans (congrArg some (by kernel_rfl))
 f46:=⟨Tryz.f224.name,by decide,Tryz.func224.trans (congrArg some (by kernel_rfl))⟩
 f47:=Tryz.func225.trans (congrArg some (by kernel_rfl))
 f48:=Tryz.func226.trans (congrArg some (by kernel_rfl))
 f49:=⟨Tryz.f227.name,by decide,Tryz.func227.trans (congrArg some (by kernel_rfl))⟩
 f50:=⟨Tryz.f228.name,by decide,Tryz.func228.trans (congrArg some (by kernel_rfl))⟩
 f57:=⟨Tryz.f252.name,by decide,Tryz.func252.trans (congrArg some (by kernel_rfl))⟩
 t0:=Tryz.underlying0
 a0:=Tryz.isAgg0
 z0:=Tryz.sizeOf0
 v0:=Tryz.zeroValue0
 t3:=Tryz.underlying3
 a3:=Tryz.isAgg3
 z3:=Tryz.sizeOf3
 v3:=Tryz.zeroValue3
 t4:=Tryz.underlying4
 a4:=Tryz.isAgg4
 z4:=Tryz.sizeOf4
 v4:=Tryz.zeroValue4
 t5:=Tryz.underlying5
 a5:=Tryz.isAgg5
 z5:=Tryz.sizeOf5
 v5:=Tryz.zeroValue5
 t9:=Tryz.underlying9
 a9:=Tryz.isAgg9
 z9:=Tryz.sizeOf9
 v9:=Tryz.zeroValue9
 t22:=Tryz.underlying32
 a22:=Tryz.isAgg32
 z22:=Tryz.sizeOf32
 v22:=Tryz.zeroValue32
 t25:=Tryz.underlying119
 a25:=Tryz.isAgg119
 z25:=Tryz.sizeOf119
 v25:=Tryz.zeroValue119
 t39:=Tryz.underlying211
 a39:=Tryz.isAgg211
 z39:=Tryz.sizeOf211
 v39:=Tryz.zeroValue211
 t45:=Tryz.underlying255
 a45:=Tryz.isAgg255
 z45:=Tryz.sizeOf255
 v45:=Tryz.zeroValue255
 t46:=Tryz.underlying256
 a46:=Tryz.isAgg256
 z46:=Tryz.sizeOf256
 v46:=Tryz.zeroValue256
 t50:=Tryz.underlying133
 a50:=Tryz.isAgg133
 z50:=Tryz.sizeOf133
 v50:=Tryz.zeroValue133
 t53:=Tryz.underlying262
 a53:=Tryz.isAgg262
 z53:=Tryz.sizeOf262
 v53:=Tryz.zeroValue262
 t55:=Tryz.underlying120
 a55:=Tryz.isAgg120
 z55:=Tryz.sizeOf120
 v55:=Tryz.zeroValue120
 t66:=Tryz.underlying277
 a66:=Tryz.isAgg277
 z66:=Tryz.sizeOf277
 v66:=Tryz.zeroValue277
 t70:=Tryz.underlying281
 a70:=Tryz.isAgg281
 z70:=Tryz.sizeOf281
 v70:=Tryz.zeroValue281
 t76:=Tryz.underlying296
 a76:=Tryz.isAgg296
 z76:=Tryz.sizeOf296
 v76:=Tryz.zeroValue296
 t77:=Tryz.underlying297
 a77:=Tryz.isAgg297
 z77:=Tryz.sizeOf297
 v77:=Tryz.zeroValue297}
end Go.Proofs
end
section
namespace Go.Sx
open Go.Lib Go.Proofs Go.RowKit Go.Shelf Go.Sort
def uI:List SV→Option Con:=pU fun n=>pE (.det (0≤n∧n<18446744073709551616) (.v (.int .i64 ((Go.Lib.bitLen n.toNat:Nat):Int))))
attribute [go_sem] uI
theorem IK:FnOk Tryz.prog 144 uI where
 enter:=fun l c h args w=>enters_of Tryz.sortLk.f15 kr rfl args w
 calls:=fun l c h hp F w vs hF hvs=>by
  unfold uI at h;obtain⟨n,r,rfl,h0⟩:=zG h;obtain⟨rfl,rfl⟩:=B4 h0;obtain⟨p1,p2⟩:=hp;have q:=br (hvs.2 0 _ rfl);have hv:vs= #[.int .u64 n]:=by
   apply Array.ext
   ·simpa using hvs.1
   ·intro i h1 h2;have:i=0:=by simp at h2;exact h2
    subst this;simp only[Array.getD,h1,dif_pos]at q;exact q
  subst hv;have:=Any.bits_Len (P:=Tryz.prog) (ρ:=Tryz.sortLk_ren.viaSlsf) (SlLaysF0.n15.bits (P:=Tryz.prog) (ρ:=Tryz.sortLk_ren) { Tryz.sortLk with}) n w p1 (by omega);refine this.mono fun e w' he=>?_;obtain⟨rfl,rfl⟩:=he;exact .inl ⟨_,_,b_,rfl,rfl,⟨vb hF,Rel.v _,fun _ _ _ e=>by cases e⟩,Below.refl _ _⟩
noncomputable def IL:List SV→List Ob→Option HCon:=D2 .claim 95 [] di
@[go_sem] theorem Wp {l0:List Claim}{z n lim:Int}:IL [.os 0,.v (.int .i64 z),.v (.int .i64 n),.v (.int .i64 lim),.fn 95 [] []] [.row .claim l0]=some (ik (z=0∧n=(l0.length:Int)∧0≤lim∧lim<4611686018427387904∧apart di l0) (.tup []) [.row .claim (srt di l0)]):=N1
theorem GY:Fb .claim:=fun x s hs=>by
 simp only[cellsOf,List.mem_cons,List.not_mem_nil,or_false]at hs;rcases hs with rfl|rfl|rfl|rfl|rfl;all_goals exact⟨_,rfl,rfl⟩
theorem GZ (x y:Claim):sD (.agg (cellsOf .claim x):: .agg (cellsOf .claim y)::[])=some (.det True (.v (.int .i64 (di x y)))):=by
 simp only[go_sem,Nat.reduceBEq]
theorem Q2:FnOkO Tryz.prog 143 IL:=
 Uc (k:=.claim) Tryz.sortLk (fun w=>by kernel_rfl) (fun w=>by kernel_rfl) GY (by decide) (g:=95) (caps:=[]) xn (cf:=di) GZ GM (fun s hs=>by cases hs) ⟨default,default,GZ _ _⟩
end Go.Sx
end
section
namespace Go.Sx
open Go.Proofs
open IntKind (i64 u64)
theorem sH {l0:List Nat}(a0:JL l0){p:Prop}(h:JL l0→p:=by intro ja;simp only[go_sem,Nat.reduceBEq,Nat.reduceLeDiff,Nat.reduceLT,decide_true,Nat.reduceAdd,Nat.reduceSub,Nat.reduceMul,Int.reduceLE,Int.reduceLT,Int.reduceToNat,Int.reduceNeg,reduceCtorEq];all_goals exact gT ja):p:=h a0
@[go_sem] def cI (s_:List Claim)(k_0:Nat)(s_0:Unit):Int⊕Unit:=(bif(ak (s_.getD k_0 default))then .inl (k_0:Int)else .inr ())
def aw (s_:List Claim):Int:=(match aq (cI s_) s_.length 0 ()with| .inl x_0_0=>x_0_0| .inr s_0=>(-1))
@[go_sem] def eW:List SV→Option Con:=(pR .claim fun s_=>(pFn 93 (pE ((pE (.det True (.v (.int .i64 (aw s_)))))))))
theorem iZ:FnOk Tryz.prog 142 eW:=by
 have hG:ConsOk Tryz.prog (mkG [(93,oA)] []):=ap (cgc rU cg0) cg0;refine av [.o] mixed al hG (fn:=Tryz.f142) (c:=ae Tryz.f142) kr kr kr kr (bK fun s_=>(bq (ai ((ai (fun hp=>?_))))));dsimp only[ar]at hp;refine⟨nbl rfl,(fun id st=>bif Nat.beq id 0 then some (LCR (ρ:=Int) (σ:=Unit) 0 [] [] (fun k_0 s_0=>⟨[(0,.rs .claim s_),(1,.fn 93 [] []),(7,.v (.int .i64 (s_.length:Int))),(8,.v (.int .i64 (k_0:Int)))],[]⟩) (cI s_) pT s_.length () (s_.length≤aL) (fun _=>.ret) (fun x_0_0=>⟨[(4,.v (.int .i64 x_0_0))],[]⟩) st)else none),?_,?_⟩
 ·unfold ae Tryz.f142;simp only[am,true_and,and_true]
  ·refine aV mixed al hG kr (fun _=>rfl) (s_.length:Int) rfl ia (fun hb0 k_0 s_0 hlt0 _ hw hc=>⟨L0,ag _,?_⟩) (fun hb0 s_0 hc=>?_)
   ·exact bX (jl [])
   ·exact bH (jl [])
 ·unfold ae Tryz.f142;try unfold aw
  exact zq1
@[go_sem] noncomputable def cX:List SV→Option Con:=fun l=>(orC (cO l) (eW l))
theorem jn:FnOk Tryz.prog 142 cX:=(FnOk.or eQ iZ)
@[go_sem] def aS (l_:List Claim)(k_0:Nat)(s_0:List Claim×Int×Int):(Int×List Claim)⊕(List Claim×Int×Int):=letI q0:=s_0.1.getD (Int.toNat s_0.2.2) default;letI q1:=i64.wrap (s_0.2.2+1);(bif(decide (s_0.2.2< (s_0.1.length:Int)))then(bif(!(ak q0))then .inr ((s_0.1.set (Int.toNat s_0.2.1) q0),(i64.wrap (s_0.2.1+1)),q1)else .inr (s_0.1,s_0.2.1,q1))else .inl (s_0.2.1,s_0.1))
def aY (l_:List Claim)(k_0:Nat)(s_0:List Claim×Int×Int):Prop:=(s_0.1.length≤aL→((decide (s_0.2.2< (s_0.1.length:Int)))=true→((0≤s_0.2.2∧s_0.2.2< (s_0.1.length:Int))∧((!(ak (s_0.1.getD (Int.toNat s_0.2.2) default)))=true→(0≤s_0.2.1∧s_0.2.1< (s_0.1.length:Int))))))
def aB (l_:List Claim):List Claim:=letI q0:=aw l_;(bif(q0==(-1))then l_ else(match aq (aS l_) (l_.length+1) 0 (l_,q0,(i64.wrap (q0+1)))with| .inl x_0_0=>(((Bm .claim x_0_0.2 x_0_0.1 (x_0_0.2.length:Int)).take (Int.toNat x_0_0.1)).drop 0) | .inr s_0=>default))
def aK (l_:List Claim):Prop:=letI q0:=aw l_;letI q1:=aS l_;letI q2:=(l_,q0,(i64.wrap (q0+1)));letI q3:=l_.length+1;((q0==(-1))=false→(okI q1 (aY l_) q3 0 q2∧(∀ z_,aq q1 q3 0 q2≠ .inr z_)∧(∀ x_0_0,aq q1 q3 0 q2=.inl x_0_0→((0≤x_0_0.1∧x_0_0.1≤(x_0_0.2.length:Int))∧(0≤0∧0≤x_0_0.1∧x_0_0.1≤((Bm .claim x_0_0.2 x_0_0.1 (x_0_0.2.length:Int)).length:Int))))))
noncomputable def c5:List SV→List Ob→Option HCon:=pt (fun x_:(List Claim) =>[.os 0,.fn 93 [] []]) (fun x_=>[.row .claim x_]) (fun x_=>ik (aK x_) (.os 1) [.dead,.row .claim (aB x_)])
@[go_sem] theorem s5 (l_:List Claim):c5 ([.os 0,.fn 93 [] []]) ([.row .claim l_])=some (ik (aK l_) (.os 1) [.dead,.row .claim (aB l_)]):=lw (A:=fun x_:(List Claim) =>[.os 0,.fn 93 [] []]) (H:=fun x_=>[.row .claim x_]) (K:=fun x_=>ik (aK x_) (.os 1) [.dead,.row .claim (aB x_)]) (x:=l_)
theorem zq45 {l0 l1:List Nat}(a0:JL l0)(a1:JL l1){p:Prop}(h:JL l0→JL l1→p:=by intro ja jb;simp only[go_sem,Nat.reduceBEq,Nat.reduceLeDiff,Nat.reduceLT,decide_true,Nat.reduceAdd,Nat.reduceSub,Nat.reduceMul,Int.reduceLE,Int.reduceLT,Int.reduceToNat,Int.reduceNeg,reduceCtorEq,cX];all_goals exact sC ja jb):p:=h a0 a1
theorem jo:FnOkO Tryz.prog 92 (c5):=by
 have hG:ConsOk Tryz.prog (mkG [(93,oA),(142,fun l=>cX (bv [.sl .claim,.o] l))] []):=ap (cgc rU (cgc (jn.norm [.sl .claim,.o]) cg0)) cg0;refine pd mixed al hG (fn:=Tryz.f92) (c:=ae Tryz.f92) kr kr kr kr fun l o con h=>?_;obtain⟨l_,rfl,rfl,rfl⟩:=jx h;clear h;try dsimp only
 refine⟨_,_,_,rfl,fun hp=>?_⟩;unfold aK at hp;refine⟨nbl rfl,(fun id st=>bif Nat.beq id 0 then some (LCV (ρ:=(Int×List Claim)) (σ:=(List Claim×Int×Int)) 1 [] [0] (fun k_0 s_0=>⟨[(0,.os 0),(1,.fn 93 [] []),(5,.v (.int .i64 s_0.2.1)),(6,.v (.int .i64 s_0.2.2))],[.row .claim s_0.1]⟩) (aS l_) (aY l_) (l_.length+1) (l_,(aw l_),(i64.wrap ((aw l_)+1))) (fun _=>.normal) (fun x_0_0=>⟨[(0,.os 0),(5,.v (.int .i64 x_0_0.1))],[.row .claim x_0_0.2]⟩) st)else none),?_,?_⟩
 ·unfold ae Tryz.f92;simp only[am,true_and,and_true,and_assoc]
  ·refine uD mixed al hG kr (fun _=>rfl) fun k_0 s_0 hq0=>⟨L0,ag _,?_⟩
   ·unfold aY at hq0;exact sH (jl [0])
 ·unfold ae Tryz.f92;try unfold aB
  exact zq45 (jl [0,0]) (jl [0,1])
def aZ (l_:List Claim):List Claim:=(srt di l_)
def aW (l_:List Claim):Prop:=letI q2:=(l_.length:Int);letI q0:=u64.wrap q2;letI q1:=((Go.Lib.bitLen (Int.toNat q0):Nat):Int);(l_.length≤aL→((0≤q0∧q0<18446744073709551616)∧(0=0∧q2=q2∧0≤q1∧q1<4611686018427387904∧apart di l_)))
noncomputable def dq:List SV→List Ob→Option HCon:=pt (fun x_:(List Claim) =>[.os 0,.fn 95 [] []]) (fun x_=>[.row .claim x_]) (fun x_=>ik (aW x_) (.tup []) [.row .claim (aZ x_)])
@[go_sem] theorem tH (l_:List Claim):dq ([.os 0,.fn 95 [] []]) ([.row .claim l_])=some (ik (aW l_) (.tup []) [.row .claim (aZ l_)]):=lw (A:=fun x_:(List Claim) =>[.os 0,.fn 95 [] []]) (H:=fun x_=>[.row .claim x_]) (K:=fun x_=>ik (aW x_) (.tup []) [.row .claim (aZ x_)]) (x:=l_)
theorem zq46 {l0:List Nat}(a0:JL l0){p:Prop}(h:JL l0→p:=by intro ja;simp only[go_sem,Nat.reduceBEq,Nat.reduceLeDiff,Nat.reduceLT,decide_true,Nat.reduceAdd,Nat.reduceSub,Nat.reduceMul,Int.reduceLE,Int.reduceLT,Int.reduceToNat,Int.reduceNeg,reduceCtorEq,uI];all_goals exact gT ja):p:=h a0
theorem jJ:FnOkO Tryz.prog 94 (dq):=by
 have hG:ConsOk Tryz.prog (mkG [(144,uI)] [(143,IL)]):=ap (cgc IK cg0) (cgc Q2 cg0);refine pd mixed al hG (fn:=Tryz.f94) (c:=ae Tryz.f94) kr kr kr kr fun l o con h=>?_;obtain⟨l_,rfl,rfl,rfl⟩:=jx h;clear h;try dsimp only
 refine⟨_,_,_,rfl,fun hp=>?_⟩;unfold aW at hp;refine⟨nbl rfl,L0,?_,?_⟩
 ·unfold ae Tryz.f94;simp only[am,and_self,true_and,and_true]
 ·unfold ae Tryz.f94;try unfold aZ
  exact zq46 (jl [0])
def cP (l_:List Claim):List Claim:=(aZ (aB l_))
def cq (l_:List Claim):Prop:=((aK l_)∧(aW (aB l_)))
noncomputable def qn:List SV→List Ob→Option HCon:=pt (fun x_:(List Claim) =>[.os 0]) (fun x_=>[.row .claim x_]) (fun x_=>ik (cq x_) (.os 1) [.dead,.row .claim (cP x_)])
@[go_sem] theorem Hv (l_:List Claim):qn ([.os 0]) ([.row .claim l_])=some (ik (cq l_) (.os 1) [.dead,.row .claim (cP l_)]):=lw (A:=fun x_:(List Claim) =>[.os 0]) (H:=fun x_=>[.row .claim x_]) (K:=fun x_=>ik (cq x_) (.os 1) [.dead,.row .claim (cP x_)]) (x:=l_)
theorem y1:FnOkO Tryz.prog 47 (qn):=by
 have hG:ConsOk Tryz.prog (mkG [] [(92,c5),(94,dq)]):=ap cg0 (cgc jo (cgc jJ cg0));refine pd mixed al hG (fn:=Tryz.f47) (c:=ae Tryz.f47) kr kr kr kr fun l o con h=>?_;obtain⟨l_,rfl,rfl,rfl⟩:=jx h;clear h;try dsimp only
 refine⟨_,_,_,rfl,fun hp=>?_⟩;unfold cq at hp;refine⟨nbl rfl,L0,?_,?_⟩
 ·unfold ae Tryz.f47;simp only[am,and_self,true_and,and_true]
 ·unfold ae Tryz.f47;try unfold cP
  exact sH (jl [0,1])
@[go_sem] def cJ (x:Judgement)(l_:List Claim)(k_0:Nat)(s_0:List Claim×Int):Empty⊕(List Claim×Int):=letI q1:=s_0.1.getD k_0 default;letI q0:=s_0.1.set k_0 ({ right:=q1.right,farm:=q1.farm,hour:=q1.hour,litres:=(if s_0.2<q1.litres then s_0.2 else q1.litres),rank:=q1.rank}:Claim);(bif(q1.farm==x.farm)then .inr (q0,(i64.wrap (s_0.2 - (q0.getD k_0 default).litres)))else .inr (s_0.1,s_0.2))
def er (x:Judgement)(l_:List Claim)(k_0:Nat)(s_0:List Claim×Int):Prop:=letI q0:=s_0.1.getD k_0 default;letI q2:=(k_0:Int);letI q1:=0≤q2∧q2< (s_0.1.length:Int);(q1∧((q0.farm==x.farm)=true→(q1∧(q1∧(0≤q2∧q2< ((s_0.1.set k_0 ({ right:=q0.right,farm:=q0.farm,hour:=q0.hour,litres:=(if s_0.2<q0.litres then s_0.2 else q0.litres),rank:=q0.rank}:Claim)).length:Int))))))
def bN (x:Judgement)(l_:List Claim):List Claim:=(match aq (cJ x l_) l_.length 0 (l_,x.n)with| .inl x=>x.elim| .inr s_0=>s_0.1)
def co (x:Judgement)(l_:List Claim):Prop:=(l_.length≤aL→okI (cJ x l_) (er x l_) l_.length 0 (l_,x.n))
noncomputable def jy:List SV→List Ob→Option HCon:=pt (fun x_:Judgement×(List Claim) =>[.os 0,.agg (cellsOf .judgement x_.1)]) (fun x_=>[.row .claim x_.2]) (fun x_=>ik (co x_.1 x_.2) (.os 0) [.row .claim (bN x_.1 x_.2)])
@[go_sem] theorem A2 (x:Judgement)(l_:List Claim):jy ([.os 0,.agg [.v (.int .i64 x.no),.v (.int .i64 x.hour),.v (.int .i64 x.kind),.v (.int .i64 x.farm),.v (.int .i64 x.other),.v (.int .i64 x.since),.v (.int .i64 x.to),.v (.int .i64 x.n),.v (.int .i64 x.of_)]]) ([.row .claim l_])=some (ik (co x l_) (.os 0) [.row .claim (bN x l_)]):=lw (A:=fun x_:Judgement×(List Claim) =>[.os 0,.agg (cellsOf .judgement x_.1)]) (H:=fun x_=>[.row .claim x_.2]) (K:=fun x_=>ik (co x_.1 x_.2) (.os 0) [.row .claim (bN x_.1 x_.2)]) (x:=(x,l_))
theorem s7:FnOkO Tryz.prog 88 (jy):=by
 have hG:ConsOk Tryz.prog (mkG [] []):=ap cg0 cg0;refine pd mixed al hG (fn:=Tryz.f88) (c:=ae Tryz.f88) kr kr kr kr fun l o con h=>?_;obtain⟨⟨x,l_⟩,rfl,rfl,rfl⟩:=jx h;clear h;try dsimp only
 refine⟨_,_,_,rfl,fun hp=>?_⟩;unfold co at hp;refine⟨nbl rfl,(fun id st=>bif Nat.beq id 0 then some (LCR (ρ:=Empty) (σ:=(List Claim×Int)) 2 [] [0,1] (fun k_0 s_0=>⟨[(0,.os 0),(3,.ptr 1 0),(5,.v (.int .i64 s_0.2)),(10,.v (.int .i64 (l_.length:Int))),(11,.v (.int .i64 (k_0:Int)))],[.row .claim s_0.1,.cells (cellsOf .judgement x)]⟩) (cJ x l_) (er x l_) l_.length (l_,x.n) (l_.length≤aL) ((·.elim)) ((·.elim)) st)else none),?_,?_⟩
 ·unfold ae Tryz.f88;simp only[am,true_and,and_true,and_assoc]
  ·refine aV mixed al hG kr (fun _=>rfl) (l_.length:Int) rfl ia (fun hb0 k_0 s_0 hlt0 hq0 hw hc=>⟨L0,ag _,?_⟩) (fun hb0 s_0 hc=>?_)
   ·unfold er at hq0;try simp only[hw,Int.toNat_natCast]at hq0
    exact bX (jl [0,1])
   ·exact bH (jl [0,1])
 ·unfold ae Tryz.f88;try unfold bN
  exact sH (jl [0])
def vO (x:Judgement)(l_:List Claim):Unit:=()
noncomputable def jX:List SV→List Ob→Option HCon:=pt (fun x_:Judgement×(List Claim) =>[.os 0,.agg (cellsOf .judgement x_.1)]) (fun x_=>[.row .claim x_.2]) (fun x_=>ik True (.os 0) [.row .claim x_.2])
@[go_sem] theorem Cv (x:Judgement)(l_:List Claim):jX ([.os 0,.agg [.v (.int .i64 x.no),.v (.int .i64 x.hour),.v (.int .i64 x.kind),.v (.int .i64 x.farm),.v (.int .i64 x.other),.v (.int .i64 x.since),.v (.int .i64 x.to),.v (.int .i64 x.n),.v (.int .i64 x.of_)]]) ([.row .claim l_])=some (ik True (.os 0) [.row .claim l_]):=lw (A:=fun x_:Judgement×(List Claim) =>[.os 0,.agg (cellsOf .judgement x_.1)]) (H:=fun x_=>[.row .claim x_.2]) (K:=fun x_=>ik True (.os 0) [.row .claim x_.2]) (x:=(x,l_))
theorem tY:FnOkO Tryz.prog 90 (jX):=by
 have hG:ConsOk Tryz.prog (mkG [] []):=ap cg0 cg0;refine pd mixed al hG (fn:=Tryz.f90) (c:=ae Tryz.f90) kr kr kr kr fun l o con h=>?_;obtain⟨⟨x,l_⟩,rfl,rfl,rfl⟩:=jx h;clear h;try dsimp only
 refine⟨_,_,_,rfl,fun hp=>?_⟩;refine⟨nbl rfl,L0,?_,?_⟩
 ·unfold ae Tryz.f90;simp only[am,and_self,true_and,and_true]
 ·unfold ae Tryz.f90;try unfold vO
  exact sH (jl [0])
@[go_sem] theorem aah {f:FuncId}:zr (.fn f [] [])=some [.fn f [] []]:=(rfl)
theorem Lu {κ υ:Type}[DecidableEq κ](l:List (κ×υ))(x z:κ)(y:υ):iY (v7 l x y) z=if z=x then some y else iY l z:=by
 induction l with
 |nil=>simp[v7,iY]
 |cons a r ih=>
  obtain⟨a,b⟩:=a;unfold v7;by_cases h:x=a
  ·subst h;simp only[if_pos];unfold iY;by_cases hz:z=x <;>simp[hz]
  ·rw[if_neg h];unfold iY;by_cases hz:z=a
   ·subst hz;rw[if_pos rfl,if_neg (fun e=>h e.symm),if_pos rfl]
   ·rw[if_neg hz,ih,if_neg hz]
def fu:List (Int×(Option Nat)):=(iX .int .fnc (iX .int .fnc (iX .int .fnc (iX .int .fnc ([]) 1 (some 88)) 2 (some 88)) 3 (some 89)) 4 (some 90))
@[go_sem] def tI:List SV→Option Con:=(pE (.det True (.nm .int .fnc (fu))))
theorem yi:FnOk Tryz.prog 42 tI:=by
 have hG:ConsOk Tryz.prog (mkG [] []):=ap cg0 cg0;refine Cq [] mixed al hG (fn:=Tryz.f42) (c:=ae Tryz.f42) kr kr kr kr (ai (fun hp=>?_));dsimp only[ar]at hp;refine⟨nbl rfl,L0,ag _,?_⟩
 ·unfold ae Tryz.f42;try unfold fu
  exact zq1
theorem qo (k:Int):du .int .fnc fu k=bif k==1 then some 88 else bif k==2 then some 88 else bif k==3 then some 89 else bif k==4 then some 90 else none:=by
 by_cases h1:k=1
 ·subst h1;rfl
 by_cases h2:k=2
 ·subst h2;rfl
 by_cases h3:k=3
 ·subst h3;rfl
 by_cases h4:k=4
 ·subst h4;rfl
 have e1:(k==1)=false:=by simpa using h1
 have e2:(k==2)=false:=by simpa using h2
 have e3:(k==3)=false:=by simpa using h3
 have e4:(k==4)=false:=by simpa using h4
 rw[e1,e2,e3,e4];simp only[fu,du,iX,Lu,if_neg h1,if_neg h2,if_neg h3,if_neg h4];rfl
end Go.Sx
end
section
namespace Go.Sx
open Go.RowKit
open IntKind (i64)
abbrev RF:= { r:Nat→Res // ∀ k,(r k).n=k}
def Lv (items:List (List SV))(r:RF):List SV→Res→Option YCon:=itY items r.1
@[go_sem] theorem aai {items:List (List SV)}{r:RF}{k:Nat}{args:List SV}:Lv items r args (r.1 (k+1))=some (GD (items[k]? =some args) r.1 (k+2)):=M3 r.2 k args
section
variable {ρ σ:Type}
def lcy (pre:Prop)(run:ρ⊕σ)(exE:ρ→Ex)(outE:ρ→St)(outN:σ→St)(stp:St):LCon where
 α:=Option (ρ⊕σ)
 pre:=pre
 post:=fun|none=>True|some r=>r=run
 ex:=fun|none=>.ret|some (.inl x) =>exE x|some (.inr _) =>.normal
 out:=fun|none=>stp|some (.inl x) =>outE x|some (.inr s) =>outN s
def LCY (m:Nat)(ns:List NLoc)(js:List Nat)(D:Nat→σ→St)(step:Nat→σ→ρ⊕σ)(p:Nat→σ→Prop)(n:Nat)(s0:σ)(B:Prop)(exE:ρ→Ex)(outE:ρ→St)(stp:St)(st:St):LCon:=
 lcy (sA m ns js st (D 0 s0)∧B∧okI step p n 0 s0) (aq step n 0 s0) exE outE (D n) stp
def Ud (m:Nat)(ns:List NLoc)(js:List Nat)(D:Nat→σ→St)(step:Nat→σ→ρ⊕σ)(p:Nat→σ→Prop)(n:Nat)(s0:σ)(exE:ρ→Ex)(outE:ρ→St)(stp:St)(st:St):LCon:=
 lcy (sA m ns js st (D 0 s0)∧okI step p n 0 s0∧∀ s,aq step n 0 s0≠ .inr s) (aq step n 0 s0) exE outE (D n) stp
variable {m:Nat}{ns:List NLoc}{js:List Nat}{step:Nat→σ→ρ⊕σ}{p:Nat→σ→Prop}{n:Nat}{s0:σ}{B:Prop}{exE:ρ→Ex}{outE:ρ→St}{stp st:St}{Q:Ex→St→Prop}{D:Nat→σ→St}
theorem D3 {pre:Prop}{run:ρ⊕σ}{outN:σ→St}:rS Q (some (lcy pre run exE outE outN stp))=(pre∧(∀ x,run=.inl x→Q (exE x) (outE x))∧(∀ s,run=.inr s→Q .normal (outN s))∧Q .ret stp):=by
 apply propext;constructor
 ·rintro⟨h1,h2⟩;exact⟨h1,fun x hx=>h2 (some (.inl x)) hx.symm,fun s hs=>h2 (some (.inr s)) hs.symm,h2 none trivial⟩
 ·rintro⟨h1,h2,h3,h4⟩;refine⟨h1,fun r hr=>?_⟩;match r,hr with
  |none,_=>exact h4
  |some (.inl x),hr=>exact h2 x hr.symm
  |some (.inr s),hr=>exact h3 s hr.symm
@[go_sem] theorem Wq:rS Q (some (LCY m ns js D step p n s0 B exE outE stp st))=((sA m ns js st (D 0 s0)∧B∧okI step p n 0 s0)∧(∀ x,aq step n 0 s0=.inl x→Q (exE x) (outE x))∧(∀ s,aq step n 0 s0=.inr s→Q .normal (D n s))∧Q .ret stp):=D3
@[go_sem] theorem Ue:rS Q (some (Ud m ns js D step p n s0 exE outE stp st))=((sA m ns js st (D 0 s0)∧okI step p n 0 s0∧∀ s,aq step n 0 s0≠ .inr s)∧(∀ x,aq step n 0 s0=.inl x→Q (exE x) (outE x))∧Q .ret stp):=by
 refine D3.trans ?_;apply propext;constructor
 ·rintro⟨h1,h2,_,h4⟩;exact⟨h1,h2,h4⟩
 ·rintro⟨h1,h2,h4⟩;exact⟨h1,h2,fun s hs=>absurd hs (h1.2.2 s),h4⟩
def cY (step:Nat→σ→ρ⊕σ)(exE:ρ→Ex)(outE:ρ→St)(D:Nat→σ→St)(stp:St)(m id k:Nat)(s:σ):Ex→St→Prop
 | .normal,st=>uC D m k st (step k s)
 | .exit j,st=>nY exE outE m (bif Nat.beq j id then .normal else .exit j) st (step k s)
 | .ret,st=>nY exE outE m .ret st (step k s)∨i9 stp m st
 | .pan x,st=>nY exE outE m (.pan x) st (step k s)
variable {id k j:Nat}{s:σ}{x:Value}{e e':Ex}
@[go_sem] theorem Wr:cY step exE outE D stp m id k s .normal st=uC D m k st (step k s):=(rfl)
@[go_sem] theorem aaj:cY step exE outE D stp m id k s (.exit j) st=nY exE outE m (bif Nat.beq j id then .normal else .exit j) st (step k s):=(rfl)
@[go_sem] theorem abl:cY step exE outE D stp m id k s .ret st=(nY exE outE m .ret st (step k s)∨i9 stp m st):=(rfl)
@[go_sem] theorem abm:cY step exE outE D stp m id k s (.pan x) st=nY exE outE m (.pan x) st (step k s):=(rfl)
@[congr] theorem Yo {st':St}(h:st=st')(he:e=e'):cY step exE outE D stp m id k s e st=cY step exE outE D stp m id k s e' st':=by rw[h,he]
end
section
variable {P:Program}{ρ σ:Type}{ts:Tis}{G:Cons}{ro:Option Nat}{N:Nat}{id:Nat}{c:Code}{C:St→Option LCon}{m:Nat}{ns:List NLoc}{js:List Nat}{step:Nat→σ→ρ⊕σ}{p:Nat→σ→Prop}{n:Nat}{s0:σ}{exE:ρ→Ex}{outE:ρ→St}{D:Nat→σ→St}{stp:St}
theorem N2 {n0:Nat}(hn0:n0=m){s:σ}{k:Nat}(hlt:k<n){I:Nat×σ→Prop}{μ:Nat×σ→Nat}{outN:σ→St}{pre:Prop}{run:ρ⊕σ}
  (hI:∀ s',step k s=.inr s'→I (k+1,s')∧μ (k+1,s') <μ (k,s)) (hx:∀ x,step k s=.inl x→run=.inl x):
  ∀ e st',cY step exE outE D stp m id k s e st'→uY (fun x:Nat×σ=>D x.1 x.2) I μ n0 (k,s) id (fun e st'=>∃ r js,(lcy pre run exE outE outN stp).post r∧(lcy pre run exE outE outN stp).ex r=e∧n0≤((lcy pre run exE outE outN stp).out r).h.length∧Sub js n0 st' ((lcy pre run exE outE outN stp).out r)) e st':=by
 subst hn0;have hfin:∀ e st',nY exE outE n0 e st' (step k s)→∃ r js,(lcy pre run exE outE outN stp).post r∧(lcy pre run exE outE outN stp).ex r=e∧n0≤((lcy pre run exE outE outN stp).out r).h.length∧Sub js n0 st' ((lcy pre run exE outE outN stp).out r):=by
  intro e st' q;cases hs:step k s with
  |inr s'=>rw[hs]at q;exact q.elim
  |inl x=>
   rw[hs]at q;obtain⟨q2,js,q3,q4⟩:=q;exact⟨some (.inl x),js,(hx x hs).symm,q2,q3,q4⟩
 intro e st' hq;cases e with
 |normal=>
  change uC D n0 k st' (step k s)at hq;cases hs:step k s with
  |inl x=>rw[hs]at hq;exact hq.elim
  |inr s'=>
   rw[hs]at hq;obtain⟨js,q3,q4⟩:=hq;obtain⟨i1,i2⟩:=hI s' hs;exact⟨(k+1,s'),js,i1,i2,q3,q4⟩
 |exit j=>
  change nY exE outE n0 (bif Nat.beq j id then .normal else .exit j) st' (step k s)at hq;show bif Nat.beq j id then _ else _;cases hb:Nat.beq j id with
  |true=>rw[hb]at hq;exact hfin _ _ hq
  |false=>rw[hb]at hq;exact hfin _ _ hq
 |ret=>
  rcases hq with hq|hq
  ·exact hfin _ _ hq
  ·obtain⟨js,q3,q4⟩:=hq;exact⟨none,js,trivial,rfl,q3,q4⟩
 |pan x=>exact hfin _ _ hq
theorem N3 {B:Prop}(hm:P.follows .mixedOrders=true)(hts:ts.ok P)(hG:ConsOk P G)(hc:bO N c=true)(hC:∀ st,C st=some (LCY m ns js D step p n s0 B exE outE stp st))(M:Int)(hn:n=M.toNat)(hB:B→M<9223372036854775808)
  (h:B→∀ k s,k<n→p k s→i64.wrap ((k:Int)+1)=((k+1:Nat):Int)→decide ((k:Int) <M)=true→∃ L,am P ro N L c∧exec ts G L c (D k s) (cY step exE outE D stp m id k s))
  (h2:B→∀ s,decide ((n:Int) <M)=false→exec ts G L0 c (D n s) (cZ (D n s) m id)):kG P ro N id (.loop c) C:=by
 refine uB hm hts hG hc fun st lc hC' hp=>?_;rw[hC st]at hC';cases hC';obtain⟨⟨hlen,hok,hle,hsub⟩,hB',h1⟩:=hp;refine⟨Nat×σ,fun x=>D x.1 x.2,fun x=>x.1≤n∧okI step p (n - x.1) x.1 x.2∧aq step (n - x.1) x.1 x.2=aq step n 0 s0,fun x=>n - x.1,(0,s0),mkN ns st,js,⟨Nat.zero_le _,by simpa using h1,by simp⟩,ww ns st st (.refl _) hok,by rw[hlen];exact hle,by rw[hlen];exact hsub,?_⟩;rintro⟨k,s⟩ ⟨hk,hJ,hrun⟩;simp only at hk hJ hrun;rcases Nat.lt_or_ge k n with hlt|hge
 ·rw[show n - k=(n - k - 1)+1 by omega]at hrun hJ;obtain⟨L,hl,hex⟩:=h hB' k s hlt hJ.1 (M7 (hn▸hlt) (hB hB')) (decide_eq_true (by omega));have hI:∀ s',step k s=.inr s'→okI step p (n - (k+1)) (k+1) s'∧aq step (n - (k+1)) (k+1) s'=aq step n 0 s0:=fun s' hs=>by
   have:=hJ.2 s' hs;rw[show n - k - 1=n - (k+1) by omega]at this hrun;simp only[aq,hs]at hrun;exact⟨this,hrun⟩
  have hx:∀ x,step k s=.inl x→aq step n 0 s0=.inl x:=fun x hs=>by
   simp only[aq,hs]at hrun;exact hrun.symm
  exact⟨L,_,hl,fun e st' q=>N2 hlen hlt (fun s' hs=>⟨⟨hlt,hI s' hs⟩,by simp only;omega⟩) hx e st' q,hex⟩
 ·have hkn:k=n:=by omega
  subst hkn;have hex:=h2 hB' s (by rw[decide_eq_false_iff_not];omega);refine⟨L0,_,ag c,fun e st' hq=>?_,hex⟩;simp only[Nat.sub_self,aq]at hrun;cases e with
  |exit j=>
   change bif Nat.beq j id then i9 (D k s) m st' else False at hq;show bif Nat.beq j id then _ else _;cases hb:Nat.beq j id with
   |true=>
    rw[hb]at hq;obtain⟨js,q3,q4⟩:=hq;exact⟨some (.inr s),js,hrun,rfl,by rw[hlen];exact q3,by rw[hlen];exact q4⟩
   |false=>rw[hb]at hq;exact hq.elim
  |_=>exact hq.elim
theorem Lw (hm:P.follows .mixedOrders=true)(hts:ts.ok P)(hG:ConsOk P G)(hc:bO N c=true)(hC:∀ st,C st=some (Ud m ns js D step p n s0 exE outE stp st))
  (h:∀ k s,p k s→∃ L,am P ro N L c∧exec ts G L c (D k s) (cY step exE outE D stp m id k s)):kG P ro N id (.loop c) C:=by
 refine uB hm hts hG hc fun st lc hC' hp=>?_;rw[hC st]at hC';cases hC';obtain⟨⟨hlen,hok,hle,hsub⟩,h1,hno⟩:=hp;refine⟨Nat×σ,fun x=>D x.1 x.2,fun x=>x.1≤n∧okI step p (n - x.1) x.1 x.2∧aq step (n - x.1) x.1 x.2=aq step n 0 s0,fun x=>n - x.1,(0,s0),mkN ns st,js,⟨Nat.zero_le _,by simpa using h1,by simp⟩,ww ns st st (.refl _) hok,by rw[hlen];exact hle,by rw[hlen];exact hsub,?_⟩;rintro⟨k,s⟩ ⟨hk,hJ,hrun⟩;simp only at hk hJ hrun;rcases Nat.lt_or_ge k n with hlt|hge
 ·rw[show n - k=(n - k - 1)+1 by omega]at hrun hJ;obtain⟨L,hl,hex⟩:=h k s hJ.1;have hI:∀ s',step k s=.inr s'→okI step p (n - (k+1)) (k+1) s'∧aq step (n - (k+1)) (k+1) s'=aq step n 0 s0:=fun s' hs=>by
   have:=hJ.2 s' hs;rw[show n - k - 1=n - (k+1) by omega]at this hrun;simp only[aq,hs]at hrun;exact⟨this,hrun⟩
  have hx:∀ x,step k s=.inl x→aq step n 0 s0=.inl x:=fun x hs=>by
   simp only[aq,hs]at hrun;exact hrun.symm
  exact⟨L,_,hl,fun e st' q=>N2 hlen hlt (fun s' hs=>⟨⟨hlt,hI s' hs⟩,by simp only;omega⟩) hx e st' q,hex⟩
 ·have hkn:k=n:=by omega
  subst hkn;simp only[Nat.sub_self,aq]at hrun;exact absurd hrun.symm (hno s)
end
def qW (n:Nat):List Ob:=List.replicate n .dead
def N4 (items:List (List SV))(r:RF)(n:Nat):Ex→St→Prop
 | .normal,st=>i9 ⟨[],.ab (r.1 0)::qW n⟩ (n+1) ⟨[],st.h⟩∨i9 ⟨[],.ab (r.1 (items.length+1))::qW n⟩ (n+1) ⟨[],st.h⟩
 | .ret,st=>i9 ⟨[],.ab (r.1 0)::qW n⟩ (n+1) ⟨[],st.h⟩∨i9 ⟨[],.ab (r.1 (items.length+1))::qW n⟩ (n+1) ⟨[],st.h⟩
 |_,_=>False
section
variable {items:List (List SV)}{r:RF}{n:Nat}{st:St}{e e':Ex}
@[go_sem] theorem Q3:N4 items r n .normal st=(i9 ⟨[],.ab (r.1 0)::qW n⟩ (n+1) ⟨[],st.h⟩∨i9 ⟨[],.ab (r.1 (items.length+1))::qW n⟩ (n+1) ⟨[],st.h⟩):=(rfl)
@[go_sem] theorem Ws:N4 items r n .ret st=(i9 ⟨[],.ab (r.1 0)::qW n⟩ (n+1) ⟨[],st.h⟩∨i9 ⟨[],.ab (r.1 (items.length+1))::qW n⟩ (n+1) ⟨[],st.h⟩):=(rfl)
@[go_sem] theorem aak:qW 0=[]:=(rfl)
@[go_sem] theorem aal:qW 1=[.dead]:=(rfl)
@[go_sem] theorem aam:qW 2=[.dead,.dead]:=(rfl)
@[go_sem] theorem aan:qW 3=[.dead,.dead,.dead]:=(rfl)
@[go_sem] theorem aao:qW 4=[.dead,.dead,.dead,.dead]:=(rfl)
end
theorem G0 {js:List Nat}{n0:Nat}{h h':List Ob}(q:Sub js n0 ⟨[],h⟩ ⟨[],h'⟩):Sub js n0 ⟨[(0,.tup [])],h⟩ ⟨[(0,.tup [])],h'⟩:=by
 refine⟨q.1,?_,q.2.2⟩;simp only[KE,lk];exact⟨⟨rfl,rfl⟩,trivial⟩
open Classical in
theorem N5 {P:Program} {ts:Tis} {G:RF→Cons} (hm:P.follows .mixedOrders=true) (hts:ts.ok P) {f:FuncId} {fn:Func} {c:Code} (hf:P.funcs[f]? =some fn) (hb:fn.body=some c) (hname:(fn.name== "runtime.NumGoroutine")=false) (hc:bO fn.ntmps c=true) (hr:fn.results.toList=[])
  {items:List (List SV)} {mk:SV→List SV} {hs:List Ob} {n:Nat} (hn:hs.length=n)
  (h:∀ r:RF,YOk P (Lv items r)→ConsOk P (G r)∧(mk (.os 0)).length≤fn.ntmps∧∃ L,am P none fn.ntmps L c∧exec ts (G r) L c ⟨lf 0 (mk (.os 0)),.ab (r.1 1)::hs⟩ (N4 items r n))
  (he:∀ (args:Array Value) (w:World),(callFunc f args).run P w=.ok (.enter f args) w):GC P f mk hs items:=by
 refine RW (fun r0 hr0 hy=>?_) he;obtain⟨hG,h1,L,h2,h3⟩:=h ⟨r0,hr0⟩ hy;refine⟨fun l o=>if l=mk (.os 0)∧o=.ab (r0 1)::hs then some { α:=Bool,pre:=True,post:=fun _=>True,res:=fun b=>.ret (.tup []) (.ab (r0 (if b then items.length+1 else 0))::qW n)}else none,?_,_,if_pos ⟨rfl,rfl⟩,trivial,fun b _=>⟨_,_,_,rfl,by cases b <;>simp⟩⟩;refine B3 hm hts hG hf hb hname hc fun l o con hC _=>?_;split at hC
 rotate_left
 ·cases hC
 rename_i hlo;obtain⟨rfl,rfl⟩:=hlo;cases hC;refine⟨h1,L,_,h2,fun e st hq=>?_,h3⟩;have key:∀ st:St,(i9 ⟨[],.ab (r0 0)::qW n⟩ (n+1) ⟨[],st.h⟩∨i9 ⟨[],.ab (r0 (items.length+1))::qW n⟩ (n+1) ⟨[],st.h⟩)→yB (Ob.ab (r0 1)::hs).length { α:=Bool,pre:=True,post:=fun _=>True,res:=fun b=>.ret (.tup []) (.ab (r0 (if b then items.length+1 else 0))::qW n)} (ku (ju ts st fn.results.toList)) st.h:=fun st q=>by
  rw[hr];show ∃ r s' h' js,_;rcases q with⟨js,q1,q2⟩ | ⟨js,q1,q2⟩
  ·exact⟨false,_,_,js,trivial,rfl,by rw[List.length_cons,hn];exact q1,by rw[List.length_cons,hn];exact G0 q2⟩
  ·exact⟨true,_,_,js,trivial,rfl,by rw[List.length_cons,hn];exact q1,by rw[List.length_cons,hn];exact G0 q2⟩
 cases e with
 |normal=>exact key st hq
 |ret=>exact key st hq
 |exit j=>exact hq.elim
 |pan x=>exact hq.elim
section
variable {ρ σ τ:Type}
variable {m:Nat}{ns:List NLoc}{js:List Nat}{step:τ→σ→ρ⊕σ}{p:τ→σ→Prop}{l:List τ}{s0:σ}{exE:ρ→Ex}{outE:ρ→St}{outN:σ→St}{st:St}{Q:Ex→St→Prop}{D:List Nat→Option Nat→σ→St}
variable {P:Program}{ts:Tis}{G:Cons}{ro:Option Nat}{N id:Nat}{c:Code}{C:St→Option LCon}
end
theorem fkY {st2 st:St}{n0:Nat}{js:List Nat}(_:JL js)(h1:n0≤st2.h.length:=by(first|(show _≤_;decide) |(simp only[*,go_sem,Nat.reduceBEq,Nat.reduceLeDiff,Nat.reduceAdd,Nat.reduceSub,Nat.reduceMul,Int.reduceLE,Int.reduceLT,Int.reduceToNat,Int.reduceNeg,reduceCtorEq];done) |(simp only[*,go_sem,Nat.reduceBEq,Nat.reduceLeDiff,Nat.reduceAdd,Nat.reduceSub,Nat.reduceMul,Int.reduceLE,Int.reduceLT,Int.reduceToNat,Int.reduceNeg,reduceCtorEq];(repeat' (first|with_reducible refine And.intro ?_ ?_|((with_reducible show _≠_);first|assumption|omega|(simp_all [dL,fD];done) |grind) |with_reducible intro _)) <;>(first|rfl|decide|assumption|omega|(simp_all [dL,fD];done) |fail))))(h2:Sub js n0 st st2:=by(first|(show _≤_;decide) |(simp only[*,go_sem,Nat.reduceBEq,Nat.reduceLeDiff,Nat.reduceAdd,Nat.reduceSub,Nat.reduceMul,Int.reduceLE,Int.reduceLT,Int.reduceToNat,Int.reduceNeg,reduceCtorEq];done) |(simp only[*,go_sem,Nat.reduceBEq,Nat.reduceLeDiff,Nat.reduceAdd,Nat.reduceSub,Nat.reduceMul,Int.reduceLE,Int.reduceLT,Int.reduceToNat,Int.reduceNeg,reduceCtorEq];(repeat' (first|with_reducible refine And.intro ?_ ?_|((with_reducible show _≠_);first|assumption|omega|(simp_all [dL,fD];done) |grind) |with_reducible intro _)) <;>(first|rfl|decide|assumption|omega|(simp_all [dL,fD];done) |fail)))):i9 st2 n0 st:=E0 js h1 h2
theorem Uf {α:Type 1}{G:List SV→α→Prop}{X:SV}{k:List SV→Option α}(h:∀ l c,k l=some c→G (X::l) c):∀ l c,pQ X k l=some c→G l c:=fun l c hc=>by
 obtain⟨r,rfl,h1⟩:=TX hc;exact h r c h1
end Go.Sx
end
section
namespace Go.Sx
@[go_sem ↓] theorem Wt (x:Reach):mkE .reach [.v (.string x.name),.v (.int .i64 x.up),.v (.int .i64 x.delay),.v (.int .i64 x.cap),.v (.int .i64 x.bank),.v (.int .i64 x.siphon),.v (.int .i64 x.evap.lo),.v (.int .i64 x.evap.hi),.v (.int .i64 x.seep.1.n),.v (.int .i64 x.seep.1.d),.v (.int .i64 x.seep.2.n),.v (.int .i64 x.seep.2.d)]=x:=(rfl)
@[go_sem ↓] theorem Wu (x:Claim):mkE .claim [.v (.int .i64 x.right),.v (.int .i64 x.farm),.v (.int .i64 x.hour),.v (.int .i64 x.litres),.v (.int .i64 x.rank)]=x:=(rfl)
@[go_sem ↓] theorem Wv (x:Order):mkE .order [.v (.int .i64 x.hour),.v (.int .i64 x.index),.v (.int .i64 x.litres),.v (.bool x.outlet)]=x:=(rfl)
@[go_sem ↓] theorem Yp (x:Tank):mkE .tank [.v (.int .i64 x.cap),.v (.int .i64 x.start)]=x:=(rfl)
@[go_sem ↓] theorem OY (x:Judgement):mkE .judgement [.v (.int .i64 x.no),.v (.int .i64 x.hour),.v (.int .i64 x.kind),.v (.int .i64 x.farm),.v (.int .i64 x.other),.v (.int .i64 x.since),.v (.int .i64 x.to),.v (.int .i64 x.n),.v (.int .i64 x.of_)]=x:=(rfl)
@[go_sem ↓] theorem Yq (x:Case):mkE .case [.v (.int .i64 x.no),.v (.int .i64 x.hour),.v (.int .i64 x.winner),.rs .int x.facts,.rs .int x.reason]=x:=(rfl)
@[go_sem ↓] theorem Ug (x:Clause):mkE .clause [.v (.int .i64 x.no),.v (.int .i64 x.then_),.v (.int .i64 x.rank),.v (.bool x.strict),.rs .int x.if_]=x:=(rfl)
@[go_sem ↓] theorem Uh (x:Reason):mkE .reason [.v (.int .i64 x.literal),.v (.int .i64 x.clause),.v (.bool x.proved)]=x:=(rfl)
@[go_sem ↓] theorem Yr (x:Farm):mkE .farm [.v (.string x.name),.v (.int .i64 x.reach),.v (.int .i64 x.area),.v (.int .i64 x.crop)]=x:=(rfl)
@[go_sem ↓] theorem Ww (x:Right):mkE .right [.v (.string x.name),.v (.int .i64 x.kind),.v (.int .i64 x.farm),.v (.int .i64 x.reach),.v (.int .i64 x.rank),.v (.int .i64 x.litres),.v (.int .i64 x.since),.v (.int .i64 x.to),.v (.int .i64 x.every),.v (.int .i64 x.length)]=x:=(rfl)
theorem G1 {p:Pk}{f:FuncId}{a b:List SV}:tP [p] (.fn f a b)=zo p (.fn f a b):=(rfl)
theorem G3 {f:FuncId}{a b:List SV}:zo .o (.fn f a b)=.fn f a b:=(rfl)
end Go.Sx
end
section
namespace Go.Sx
open Go.Proofs
open IntKind (i64)
theorem Cw {l0:List Nat}(a0:JL l0){p:Prop}(h:JL l0→p:=by intro ja;(first|done|(repeat' (first|with_reducible refine And.intro ?_ ?_|((with_reducible show _≠_);first|assumption|omega|(simp_all [dL,fD];done) |grind) |with_reducible intro _)) <;>(first|done|with_reducible exact Empty.elim ‹Empty› |with_reducible assumption|rfl|omega|assumption|decide|exact fk ja|(refine Or.inr ?_;exact fkY ja) |(refine Or.inl ?_;exact fkY ja) |(refine Or.inl ⟨rfl,?_⟩;exact fkY ja) |exact czl|(simp only[*,cond_true,cond_false,Bool.not_true,Bool.not_false,go_sem,Nat.reduceBEq,Nat.reduceLeDiff,Nat.reduceLT,decide_true,Nat.reduceAdd,Nat.reduceSub,Nat.reduceMul,Int.reduceLE,Int.reduceLT,Int.reduceToNat,Int.reduceNeg,reduceCtorEq];(repeat' (first|with_reducible refine And.intro ?_ ?_|((with_reducible show _≠_);first|assumption|omega|(simp_all [dL,fD];done) |grind) |with_reducible intro _)) <;>(first|done|assumption|rfl|omega|decide|exact fk ja|(refine Or.inr ?_;exact fkY ja) |(refine Or.inl ?_;exact fkY ja) |(refine Or.inl ⟨rfl,?_⟩;exact fkY ja) |(simp_all [dL,fD];done))) |(exfalso;rename_i h1 h2;rw[h1]at h2;cases h2) |(exfalso;rename_i h1 h2;simp only[h1,Bool.not_false,Bool.not_true,Bool.true_or,Bool.or_true,Bool.false_or,Bool.or_false,reduceCtorEq]at h2;done) |(exfalso;clear hy hG;simp_all;done) |(simp only[*,Sum.inr.injEq,forall_eq',true_implies,forall_const,reduceCtorEq,false_implies,and_true,List.length_append,List.length_cons,List.length_nil,Nat.zero_add,go_sem,Nat.reduceBEq,Nat.reduceLeDiff,Nat.reduceLT,decide_true,Nat.reduceAdd,Nat.reduceSub,Nat.reduceMul,Int.reduceLE,Int.reduceLT,Int.reduceToNat,Int.reduceNeg,reduceCtorEq]at hq2;first|exact hq2.1|exact hq2.2.1|exact hq2|exact hq2.2|(simp only[hq2];done)) |(simp only[*,Sum.inr.injEq,forall_eq',true_implies,forall_const,reduceCtorEq,false_implies,and_true,List.length_append,List.length_cons,List.length_nil,Nat.zero_add,go_sem,Nat.reduceBEq,Nat.reduceLeDiff,Nat.reduceLT,decide_true,Nat.reduceAdd,Nat.reduceSub,Nat.reduceMul,Int.reduceLE,Int.reduceLT,Int.reduceToNat,Int.reduceNeg,reduceCtorEq]at hq1;first|exact hq1.1|exact hq1.2.1|exact hq1|exact hq1.2|(simp only[hq1];done)) |(clear hy hG;simp_all only[dL,fD,Sum.inr.injEq,forall_eq',true_implies,forall_const,reduceCtorEq,false_implies,and_true,List.length_append,List.length_cons,List.length_nil,Nat.zero_add,go_sem,Nat.reduceBEq,Nat.reduceLeDiff,Nat.reduceLT,decide_true,Nat.reduceAdd,Nat.reduceSub,Nat.reduceMul,Int.reduceLE,Int.reduceLT,Int.reduceToNat,Int.reduceNeg,reduceCtorEq];done) |(simp_all [okI,dL,fD];done) |(simp_all [dL,fD];(first|done|exact fk2 ja)) |exact fk2 ja))):p:=h a0
theorem N6 {l0:List Nat}(a0:JL l0){p:Prop}(h:JL l0→p:=by intro ja;simp only[go_sem,Nat.reduceBEq,Nat.reduceLeDiff,Nat.reduceLT,decide_true,Nat.reduceAdd,Nat.reduceSub,Nat.reduceMul,Int.reduceLE,Int.reduceLT,Int.reduceToNat,Int.reduceNeg,reduceCtorEq,hc,hw];all_goals exact Cw ja):p:=h a0
theorem N7 {l0:List Nat}(a0:JL l0){p:Prop}(h:JL l0→p:=by intro ja;simp only[go_sem,Nat.reduceBEq,Nat.reduceLeDiff,Nat.reduceLT,decide_true,Nat.reduceAdd,Nat.reduceSub,Nat.reduceMul,Int.reduceLE,Int.reduceLT,Int.reduceToNat,Int.reduceNeg,reduceCtorEq,hc];all_goals exact Cw ja):p:=h a0
@[go_sem] def tZ (x:Judgement):List SV:=[.agg (cellsOf .judgement x)]
@[go_sem] def rX:List SV→Option Con:=(pR .judgement fun j=>(pI fun hour=>(pE (.det True (.fn 91 [] [.ep [.rs .judgement j] 0,.ep [.v (.int .i64 hour)] 0])))))
theorem wQ:FnOk Tryz.prog 46 rX:=by
 have hG:ConsOk Tryz.prog (mkG [] []):=ap cg0 cg0;refine av [.o] mixed al hG (fn:=Tryz.f46) (c:=ae Tryz.f46) kr kr kr kr (bK fun j=>(dh fun hour=>(ai (fun hp=>?_))));refine⟨nbl rfl,L0,ag _,?_⟩;unfold ae Tryz.f46;simp only[go_sem,G1,G3,Nat.reduceBEq,Nat.reduceLeDiff,Nat.reduceAdd,Nat.reduceSub,Nat.reduceMul]
@[go_sem] def dP (j:List Judgement)(hour:Int)(k_0:Nat)(s_0:List Judgement):Empty⊕(List Judgement):=letI q0:=j.getD k_0 default;(bif((((q0.of_==0)&&(decide (q0.hour≤hour)))&&(aM hour (q0.since) (q0.to)))&&(!(gA j q0 hour)))then .inr (s_0++[q0])else .inr s_0)
def fh (j:List Judgement)(hour:Int)(items_:List (List SV))(k_0:Nat)(s_0:List Judgement):Prop:=letI q1:=j.getD k_0 default;letI q0:=(((q1.of_==0)&&(decide (q1.hour≤hour)))&&(aM hour (q1.since) (q1.to)))&&(!(gA j q1 hour));((q0=true→(items_[s_0.length]? =some (tZ q1)))∧(q0=false→(q0=false)))
def aC (j:List Judgement)(hour:Int):List Judgement:=(match aq (dP j hour) j.length 0 ([]:List Judgement)with| .inl x=>x.elim| .inr s_0=>s_0)
def gG (j:List Judgement)(hour:Int)(items_:List (List SV)):Prop:=letI q0:=dP j hour;(j.length≤aL→(okI q0 (fh j hour items_) j.length 0 ([]:List Judgement)∧(∀ s_0,aq q0 j.length 0 ([]:List Judgement)=.inr s_0→(items_.length=s_0.length))))
theorem Ui {l0:List Nat}(a0:JL l0){p:Prop}(h:JL l0→p:=by intro ja;simp only[go_sem,Nat.reduceBEq,Nat.reduceLeDiff,Nat.reduceLT,decide_true,Nat.reduceAdd,Nat.reduceSub,Nat.reduceMul,Int.reduceLE,Int.reduceLT,Int.reduceToNat,Int.reduceNeg,reduceCtorEq];all_goals exact Cw ja):p:=h a0
theorem vo (j:List Judgement)(hour:Int)(items_:List (List SV))(hp:gG j hour items_):GC Tryz.prog 91 (fun y=>[y,.ep [.rs .judgement j] 0,.ep [.v (.int .i64 hour)] 0]) [] items_:=by
 unfold gG at hp;refine N5 mixed al (fn:=Tryz.f91) (c:=ae Tryz.f91) kr kr kr kr rfl (n:=0) rfl (G:=fun r_=>EY [(52,f_),(53,fun l=>l7 (bv [.sl .judgement,.st .judgement,.o] l))] [] (Lv items_ r_)) (fun r_ hy=>?_) (fun args w=>by kernel_rfl);have hG:ConsOk Tryz.prog (EY [(52,f_),(53,fun l=>l7 (bv [.sl .judgement,.st .judgement,.o] l))] [] (Lv items_ r_)):=EZ (cgc ib (cgc (sF.norm [.sl .judgement,.st .judgement,.o]) cg0)) cg0 hy;refine⟨hG,nbl rfl,(fun id st=>bif Nat.beq id 0 then some (LCY (ρ:=Empty) (σ:=(List Judgement)) 1 [] [0] (fun k_0 s_0=>⟨[(0,.os 0),(1,.ep [.rs .judgement j] 0),(2,.ep [.v (.int .i64 hour)] 0),(6,.rs .judgement j),(7,.v (.int .i64 (j.length:Int))),(8,.v (.int .i64 (k_0:Int)))],[.ab (r_.1 (s_0.length+1))]⟩) (dP j hour) (fh j hour items_) j.length ([]:List Judgement) (j.length≤aL) ((·.elim)) ((·.elim)) ⟨[],[.ab (r_.1 0)]⟩ st)else none),?_,?_⟩
 ·unfold ae Tryz.f91;simp only[am,true_and,and_true]
  ·refine N3 mixed al hG kr (fun _=>rfl) (j.length:Int) rfl ia (fun hb0 k_0 s_0 hlt0 hq0 hw hc=>⟨L0,ag _,?_⟩) (fun hb0 s_0 hc=>?_)
   ·unfold fh at hq0;try simp only[hw,Int.toNat_natCast]at hq0
    exact N6 (jl [0])
   ·exact N7 (jl [0])
 ·unfold ae Tryz.f91;exact Ui (jl [0])
theorem G4 {l0 l1:List Nat}(a0:JL l0)(a1:JL l1){p:Prop}(h:JL l0→JL l1→p:=by intro ja jb;simp only[go_sem,Nat.reduceBEq,Nat.reduceLeDiff,Nat.reduceLT,decide_true,Nat.reduceAdd,Nat.reduceSub,Nat.reduceMul,Int.reduceLE,Int.reduceLT,Int.reduceToNat,Int.reduceNeg,reduceCtorEq];all_goals exact sC ja jb):p:=h a0 a1
@[go_sem] def qX:List SV→Option Con:=pR .claim fun l=>pE (.det (l.length*40≤cU) (.nw .claim l))
theorem vP:FnOk Tryz.prog 45 qX:=by
 have hG:ConsOk Tryz.prog (mkG [] []):=ap cg0 cg0;refine Cq [(.tmp 2,.claim)] mixed al hG (fn:=Tryz.f45) (c:=ae Tryz.f45) kr kr kr kr (bK fun l=>ai fun hp=>?_);dsimp only[ar]at hp;refine⟨nbl rfl,L0,ag _,?_⟩;unfold ae Tryz.f45;simp only[go_sem,Nat.reduceBEq,Nat.reduceLeDiff,Nat.reduceAdd,Nat.reduceSub,Nat.reduceMul,Int.reduceLE,Int.reduceLT,Int.reduceToNat,Int.reduceNeg,reduceCtorEq];intro b hb;refine⟨fun h=>?_,fun _=>⟨hp,fun _=>rfl⟩⟩;have hl:=hb h;subst hl;rfl
def nJ (y:Claim)(r_:List Claim):Bool:=(y.hour !=(r_.getD 0 default).hour)
def lF (y:Claim)(r_:List Claim):Prop:=(0≤0∧0< (r_.length:Int))
@[go_sem] noncomputable def p7:List SV→Option Con:=(pD .claim fun y=>(pXR .claim fun r_=>(pE (.det (lF y r_) (.v (.bool (nJ y r_)))))))
theorem vp:FnOk Tryz.prog 44 p7:=by
 have hG:ConsOk Tryz.prog (mkG [] []):=ap cg0 cg0;refine av [.o] mixed al hG (fn:=Tryz.f44) (c:=ae Tryz.f44) kr kr kr kr (bp fun y=>(yS fun r_=>(ai (fun hp=>?_))));dsimp only[ar]at hp;unfold lF at hp;refine⟨nbl rfl,L0,ag _,?_⟩
 ·unfold ae Tryz.f44;try unfold nJ
  exact zq1
def bo (y:Claim):Bool:=(decide (y.litres > 1073741824))
@[go_sem] def p8:List SV→Option Con:=(pD .claim fun y=>(pE (.det True (.v (.bool (bo y))))))
theorem vr:FnOk Tryz.prog 49 p8:=by
 have hG:ConsOk Tryz.prog (mkG [] []):=ap cg0 cg0;refine av [.o] mixed al hG (fn:=Tryz.f49) (c:=ae Tryz.f49) kr kr kr kr (bp fun y=>(ai (fun hp=>?_)));dsimp only[ar]at hp;refine⟨nbl rfl,L0,ag _,?_⟩
 ·unfold ae Tryz.f49;try unfold bo
  exact zq1
@[go_sem] def ct (s_:List Claim)(r_:List Claim)(k_0:Nat)(s_0:Unit):Int⊕Unit:=(bif(nJ (s_.getD k_0 default) r_)then .inl (k_0:Int)else .inr ())
def dw (s_:List Claim)(r_:List Claim)(k_0:Nat)(s_0:Unit):Prop:=(lF (s_.getD k_0 default) r_)
def ah (s_:List Claim)(r_:List Claim):Int:=(match aq (ct s_ r_) s_.length 0 ()with| .inl x_0_0=>x_0_0| .inr s_0=>(-1))
def cB (s_:List Claim)(r_:List Claim):Prop:=(s_.length≤aL→okI (ct s_ r_) (dw s_ r_) s_.length 0 ())
@[go_sem] noncomputable def gH:List SV→Option Con:=(pR .claim fun s_=>(pFn 44 (pXR .claim fun r_=>(pE ((pE (.det (cB s_ r_) (.v (.int .i64 (ah s_ r_))))))))))
theorem lj:FnOk Tryz.prog 43 gH:=by
 have hG:ConsOk Tryz.prog (mkG [(44,p7)] []):=ap (cgc vp cg0) cg0;refine av [.o] mixed al hG (fn:=Tryz.f43) (c:=ae Tryz.f43) kr kr kr kr (bK fun s_=>(bq (yS fun r_=>(ai ((ai (fun hp=>?_)))))));dsimp only[ar]at hp;unfold cB at hp;refine⟨nbl rfl,(fun id st=>bif Nat.beq id 0 then some (LCR (ρ:=Int) (σ:=Unit) 0 [] [] (fun k_0 s_0=>⟨[(0,.rs .claim s_),(1,.fn 44 [] [.ep [.rs .claim r_] 0]),(7,.v (.int .i64 (s_.length:Int))),(8,.v (.int .i64 (k_0:Int)))],[]⟩) (ct s_ r_) (dw s_ r_) s_.length () (s_.length≤aL) (fun _=>.ret) (fun x_0_0=>⟨[(4,.v (.int .i64 x_0_0))],[]⟩) st)else none),?_,?_⟩
 ·unfold ae Tryz.f43;simp only[am,true_and,and_true]
  ·refine aV mixed al hG kr (fun _=>rfl) (s_.length:Int) rfl ia (fun hb0 k_0 s_0 hlt0 hq0 hw hc=>⟨L0,ag _,?_⟩) (fun hb0 s_0 hc=>?_)
   ·unfold dw at hq0;try simp only[hw,Int.toNat_natCast]at hq0
    exact bX (jl [])
   ·exact bH (jl [])
 ·unfold ae Tryz.f43;try unfold ah
  exact zq1
@[go_sem] def dT (s_:List Claim)(k_0:Nat)(s_0:Unit):Int⊕Unit:=(bif(bo (s_.getD k_0 default))then .inl (k_0:Int)else .inr ())
def cS (s_:List Claim):Int:=(match aq (dT s_) s_.length 0 ()with| .inl x_0_0=>x_0_0| .inr s_0=>(-1))
@[go_sem] def gI:List SV→Option Con:=(pR .claim fun s_=>(pFn 49 (pE ((pE (.det True (.v (.int .i64 (cS s_)))))))))
theorem ll:FnOk Tryz.prog 43 gI:=by
 have hG:ConsOk Tryz.prog (mkG [(49,p8)] []):=ap (cgc vr cg0) cg0;refine av [.o] mixed al hG (fn:=Tryz.f43) (c:=ae Tryz.f43) kr kr kr kr (bK fun s_=>(bq (ai ((ai (fun hp=>?_))))));dsimp only[ar]at hp;refine⟨nbl rfl,(fun id st=>bif Nat.beq id 0 then some (LCR (ρ:=Int) (σ:=Unit) 0 [] [] (fun k_0 s_0=>⟨[(0,.rs .claim s_),(1,.fn 49 [] []),(7,.v (.int .i64 (s_.length:Int))),(8,.v (.int .i64 (k_0:Int)))],[]⟩) (dT s_) pT s_.length () (s_.length≤aL) (fun _=>.ret) (fun x_0_0=>⟨[(4,.v (.int .i64 x_0_0))],[]⟩) st)else none),?_,?_⟩
 ·unfold ae Tryz.f43;simp only[am,true_and,and_true]
  ·refine aV mixed al hG kr (fun _=>rfl) (s_.length:Int) rfl ia (fun hb0 k_0 s_0 hlt0 _ hw hc=>⟨L0,ag _,?_⟩) (fun hb0 s_0 hc=>?_)
   ·exact bX (jl [])
   ·exact bH (jl [])
 ·unfold ae Tryz.f43;try unfold cS
  exact zq1
@[go_sem] noncomputable def ay:List SV→Option Con:=fun l=>(orC (gH l) (gI l))
theorem gJ:FnOk Tryz.prog 43 ay:=(FnOk.or lj ll)
def bu (s_:List Claim):Bool:=(decide ((cS s_)≥0))
@[go_sem] def fO:List SV→Option Con:=(pR .claim fun s_=>(pFn 49 (pE ((pE (.det True (.v (.bool (bu s_)))))))))
theorem zq56 {p:Prop}(h:p:=by simp only[go_sem,Nat.reduceBEq,Nat.reduceLeDiff,Nat.reduceLT,decide_true,Nat.reduceAdd,Nat.reduceSub,Nat.reduceMul,Int.reduceLE,Int.reduceLT,Int.reduceToNat,Int.reduceNeg,reduceCtorEq,ay];all_goals exact cl):p:=h
theorem jY:FnOk Tryz.prog 48 fO:=by
 have hG:ConsOk Tryz.prog (mkG [(43,fun l=>ay (bv [.sl .claim,.o] l))] []):=ap (cgc (gJ.norm [.sl .claim,.o]) cg0) cg0;refine av [.o] mixed al hG (fn:=Tryz.f48) (c:=ae Tryz.f48) kr kr kr kr (bK fun s_=>(bq (ai ((ai (fun hp=>?_))))));dsimp only[ar]at hp;refine⟨nbl rfl,L0,ag _,?_⟩
 ·unfold ae Tryz.f48;try unfold bu
  exact zq56
@[go_sem] noncomputable def aI:List SV→Option Con:=fun l=>(fO l)
theorem kv:FnOk Tryz.prog 48 aI:=jY
@[go_sem] def aU (a2:List Judgement)(s_0:List Claim×List Claim)(z_1:Judgement)(s_1:List Claim):Empty⊕(List Claim):=letI q0:=cP (bN z_1 s_1);(bif(z_1.kind==1)then .inr q0 else(bif(z_1.kind==2)then .inr q0 else(bif(z_1.kind==3)then .inr (cP (bZ z_1 s_1))else(bif(z_1.kind==4)then .inr (cP s_1)else .inr default))))
def cd (a2:List Judgement)(s_0:List Claim×List Claim)(z_1:Judgement)(s_1:List Claim):Prop:=letI q0:=(co z_1 s_1)∧(cq (bN z_1 s_1));(((z_1.kind==1)=true→q0)∧((z_1.kind==1)=false→(((z_1.kind==2)=true→q0)∧((z_1.kind==2)=false→(((z_1.kind==3)=true→((cD z_1 s_1)∧(cq (bZ z_1 s_1))))∧((z_1.kind==3)=false→(((z_1.kind==4)=true→(cq s_1))∧((z_1.kind==4)=false→False))))))))
@[go_sem] def cp (a1:List Claim)(a2:List Judgement)(k_0:Nat)(s_0:List Claim×List Claim):(List Claim)⊕(List Claim×List Claim):=letI q1:=ah s_0.1 s_0.1;letI q2:=(s_0.1.length:Int);letI q0:=Int.toNat (bif(decide (q1<0))then q2 else q1);(bif(decide (q2 > 0))then(match gD (aU a2 s_0) (aC a2 ((s_0.1.getD 0 default).hour)) ((s_0.1.take q0).drop 0)with| .inl x=>x.elim| .inr s_1=>.inr (((s_0.1.take (Int.toNat q2)).drop q0),(s_0.2++s_1)))else .inl s_0.2)
def gb (a1:List Claim)(a2:List Judgement)(k_0:Nat)(s_0:List Claim×List Claim):Prop:=letI q1:=(s_0.1.length:Int);letI q4:=ah s_0.1 s_0.1;letI q0:=bif(decide (q4<0))then q1 else q4;letI q3:=(s_0.1.take (Int.toNat q0)).drop 0;letI q5:=(s_0.1.getD 0 default).hour;letI q2:=aC a2 q5;letI q6:=aU a2 s_0;(s_0.1.length≤aL→((decide (q1 > 0))=true→((cB s_0.1 s_0.1)∧((0≤0∧0≤q0∧q0≤q1)∧((q3.length*40≤cU)∧((0≤0∧0<q1)∧((gG a2 q5 (q2.map tZ))∧okL q6 (cd a2 s_0) q2 q3∧(∀ s_1,gD q6 q2 q3=.inr s_1→(((s_0.2++s_1).length*40≤cU)∧((s_0.2++s_1).length≤aL→(0≤q0∧q0≤q1∧q1≤q1)))))))))))
def ax (a0:District)(a1:List Claim)(a2:List Judgement):List Claim×Int:=letI q0:=aT a0 a2;letI q1:=bg a0 a1;(bif(q0 !=0)then([],q0)else(bif(q1 !=0)then([],q1)else(match aq (cp a1 a2) (a1.length+1) 0 (a1,[])with| .inl x_0_0=>(bif((decide ((x_0_0.length:Int) > 4096)) ||(bu x_0_0))then([],2)else(x_0_0,0)) | .inr s_0=>default)))
def b9 (a0:District)(a1:List Claim)(a2:List Judgement):Prop:=letI q0:=cp a1 a2;((g9 a0 a2)∧(((aT a0 a2) !=0)=false→((ph a0 a1)∧(((bg a0 a1) !=0)=false→(okI q0 (gb a1 a2) (a1.length+1) 0 (a1,[])∧(∀ z_,aq q0 (a1.length+1) 0 (a1,[])≠ .inr z_))))))
@[go_sem] def nK:List SV→Option Con:=(pD .district fun a0=>(pR .claim fun a1=>(pR .judgement fun a2=>(pE (.det (b9 a0 a1 a2) (.tup [.nw .claim ((ax a0 a1 a2).1),.v (.int .i64 ((ax a0 a1 a2).2))]))))))
theorem zq57 {l0 l1 l2:List Nat}(a0:JL l0)(a1:JL l1)(a2:JL l2){p:Prop}(h:JL l0→JL l1→JL l2→p:=by intro ja jb jc;simp only[go_sem,Nat.reduceBEq,Nat.reduceLeDiff,Nat.reduceLT,decide_true,Nat.reduceAdd,Nat.reduceSub,Nat.reduceMul,Int.reduceLE,Int.reduceLT,Int.reduceToNat,Int.reduceNeg,reduceCtorEq,ay,aI,qo,aU,psT,tZ,List.cons_append,List.nil_append,hk0];all_goals exact uH ja jb jc):p:=h a0 a1 a2
theorem zq58 {l0 l1 l2:List Nat}(a0:JL l0)(a1:JL l1)(a2:JL l2){p:Prop}(h:JL l0→JL l1→JL l2→p:=by intro ja jb jc;simp only[go_sem,Nat.reduceBEq,Nat.reduceLeDiff,Nat.reduceLT,decide_true,Nat.reduceAdd,Nat.reduceSub,Nat.reduceMul,Int.reduceLE,Int.reduceLT,Int.reduceToNat,Int.reduceNeg,reduceCtorEq,ay,aI,qo,aU,psT,tZ,List.cons_append,List.nil_append,hk0,hk1];all_goals exact uH ja jb jc):p:=h a0 a1 a2
theorem zq59 {l0 l1 l2:List Nat}(a0:JL l0)(a1:JL l1)(a2:JL l2){p:Prop}(h:JL l0→JL l1→JL l2→p:=by intro ja jb jc;simp only[go_sem,Nat.reduceBEq,Nat.reduceLeDiff,Nat.reduceLT,decide_true,Nat.reduceAdd,Nat.reduceSub,Nat.reduceMul,Int.reduceLE,Int.reduceLT,Int.reduceToNat,Int.reduceNeg,reduceCtorEq,ay,aI,qo,aU,psT,tZ,List.cons_append,List.nil_append,hk0,hk1,hk2];all_goals exact uH ja jb jc):p:=h a0 a1 a2
theorem Ys {l0 l1 l2:List Nat}(a0:JL l0)(a1:JL l1)(a2:JL l2){p:Prop}(h:JL l0→JL l1→JL l2→p:=by intro ja jb jc;simp only[go_sem,Nat.reduceBEq,Nat.reduceLeDiff,Nat.reduceLT,decide_true,Nat.reduceAdd,Nat.reduceSub,Nat.reduceMul,Int.reduceLE,Int.reduceLT,Int.reduceToNat,Int.reduceNeg,reduceCtorEq,ay,aI,qo,aU,psT,tZ,List.cons_append,List.nil_append,hk0,hk1,hk2,hk3];all_goals exact uH ja jb jc):p:=h a0 a1 a2
theorem Yt {l0 l1 l2:List Nat}(a0:JL l0)(a1:JL l1)(a2:JL l2){p:Prop}(h:JL l0→JL l1→JL l2→p:=by intro ja jb jc;simp only[go_sem,Nat.reduceBEq,Nat.reduceLeDiff,Nat.reduceLT,decide_true,Nat.reduceAdd,Nat.reduceSub,Nat.reduceMul,Int.reduceLE,Int.reduceLT,Int.reduceToNat,Int.reduceNeg,reduceCtorEq,ay,aI,qo];all_goals exact uH ja jb jc):p:=h a0 a1 a2
theorem zq64 {p:Prop}(h:p:=by simp only[go_sem,Nat.reduceBEq,Nat.reduceLeDiff,Nat.reduceLT,decide_true,Nat.reduceAdd,Nat.reduceSub,Nat.reduceMul,Int.reduceLE,Int.reduceLT,Int.reduceToNat,Int.reduceNeg,reduceCtorEq,ay,aI,qo];all_goals exact cl):p:=h
theorem qY:FnOk Tryz.prog 12 nK:=by
 have hG:ConsOk Tryz.prog (mkG [(16,fun l=>l8 (bv [.st .district,.sl .judgement] l)),(32,fun l=>wC (bv [.st .district,.sl .claim] l)),(42,tI),(43,fun l=>ay (bv [.sl .claim,.o] l)),(45,fun l=>qX (bv [.sl .claim] l)),(46,fun l=>rX (bv [.sl .judgement,.o] l)),(48,fun l=>aI (bv [.sl .claim,.o] l))] [(47,qn),(88,jy),(89,jW),(90,jX)]):=ap (cgc (oD.norm [.st .district,.sl .judgement]) (cgc (AJ.norm [.st .district,.sl .claim]) (cgc yi (cgc (gJ.norm [.sl .claim,.o]) (cgc (vP.norm [.sl .claim]) (cgc (wQ.norm [.sl .judgement,.o]) (cgc (kv.norm [.sl .claim,.o]) cg0))))))) (cgc y1 (cgc s7 (cgc tX (cgc tY cg0))));refine Cq [(.tmp 6,.claim)] mixed al hG (fn:=Tryz.f12) (c:=ae Tryz.f12) kr kr kr kr (bp fun a0=>(bK fun a1=>(bK fun a2=>(ai (fun hp=>?_)))));dsimp only[ar]at hp;unfold b9 at hp;refine⟨nbl rfl,(fun id st=>bif Nat.beq id 0 then some (LCV (ρ:=(List Claim)) (σ:=(List Claim×List Claim)) 4 [.slot 6 (.row .claim ([]))] [0,1,2,3,4] (fun k_0 s_0=>⟨[(2,.rs .judgement a2),(4,.ptr 1 0),(6,.os 4),(8,.ptr 3 0)],[.dead,.cells [.rs .claim s_0.1],.mp .int .fnc fu none,.cells [.os 2],.row .claim s_0.2]⟩) (cp a1 a2) (gb a1 a2) (a1.length+1) (a1,[]) (fun _=>.normal) (fun x_0_0=>⟨[(6,.os 4)],[.dead,.dead,.dead,.dead,.row .claim x_0_0]⟩) st)else none),?_,?_⟩
 ·unfold ae Tryz.f12;simp only[am,true_and,and_true]
  ·refine uD mixed al hG kr (fun _=>rfl) fun k_0 s_0 hq0=>⟨(fun id st=>bif Nat.beq id 1000032 then some (JC (⟨[(2,.rs .judgement a2),(4,.ptr 1 0),(6,.os 4),(8,.ptr 3 0),(9,.v (.int .i64 (bif(decide ((ah s_0.1 s_0.1) <0))then(s_0.1.length:Int)else(ah s_0.1 s_0.1))))],[.dead,.cells [.rs .claim s_0.1],.mp .int .fnc fu none,.cells [.os 2],.row .claim s_0.2]⟩))else bif Nat.beq id 2 then some (LC (ρ:=Empty) (σ:=List Claim) (lk 2 st.t=.rs .judgement a2∧lk 4 st.t=.ptr 1 0∧lk 6 st.t=.os 4∧lk 8 st.t=.ptr 3 0∧lk 9 st.t=.v (.int .i64 (bif(decide ((ah s_0.1 s_0.1) <0))then(s_0.1.length:Int)else(ah s_0.1 s_0.1)))∧lk 10 st.t=.ptr 6 0∧lk 44 st.t=.fn 91 [] [.ep [.rs .judgement a2] 0,.ep [.v (.int .i64 ((s_0.1.getD 0 (default:Claim)).hour))] 0]∧st.h=[.dead,.cells [.rs .claim s_0.1],.mp .int .fnc fu none,.cells [.os 2],.row .claim s_0.2,.row .claim ((s_0.1.take (Int.toNat (bif(decide ((ah s_0.1 s_0.1) <0))then(s_0.1.length:Int)else(ah s_0.1 s_0.1)))).drop 0),.cells [.os 5]]∧gG a2 ((s_0.1.getD 0 (default:Claim)).hour) ((aC a2 ((s_0.1.getD 0 (default:Claim)).hour)).map tZ)∧okL (aU a2 s_0) (cd a2 s_0) (aC a2 ((s_0.1.getD 0 (default:Claim)).hour)) ((s_0.1.take (Int.toNat (bif(decide ((ah s_0.1 s_0.1) <0))then(s_0.1.length:Int)else(ah s_0.1 s_0.1)))).drop 0)) (gD (aU a2 s_0) (aC a2 ((s_0.1.getD 0 (default:Claim)).hour)) ((s_0.1.take (Int.toNat (bif(decide ((ah s_0.1 s_0.1) <0))then(s_0.1.length:Int)else(ah s_0.1 s_0.1)))).drop 0)) (fun x=>x.elim) (fun x=>x.elim) (fun s_1=>⟨[(2,.rs .judgement a2),(4,.ptr 1 0),(6,.os 4),(8,.ptr 3 0),(9,.v (.int .i64 (bif(decide ((ah s_0.1 s_0.1) <0))then(s_0.1.length:Int)else(ah s_0.1 s_0.1)))),(10,.ptr 6 0)],[.dead,.cells [.rs .claim s_0.1],.mp .int .fnc fu none,.cells [.os 2],.row .claim s_0.2,.dead,.cells [.os 7],.row .claim s_1]⟩))else none),?_,?_⟩
   ·simp only[am,true_and,and_true]
    ·refine zJ mixed al hG (by decide) (by decide) kr kr fun st lc hC hp=>?_;simp only[go_sem,Nat.reduceBEq,Option.some.injEq]at hC;subst hC;obtain⟨t,h⟩:=st;dsimp only[LC]at hp;obtain⟨e1_0,e1_1,e1_2,e1_3,e1_4,e1_5,e1_6,rfl,hb1,hok1⟩:=hp;refine⟨91,[.ep [.rs .judgement a2] 0,.ep [.v (.int .i64 ((s_0.1.getD 0 (default:Claim)).hour))] 0],Judgement,_,_,(aC a2 ((s_0.1.getD 0 (default:Claim)).hour)),tZ,(aU a2 s_0),(cd a2 s_0),_,((s_0.1.take (Int.toNat (bif(decide ((ah s_0.1 s_0.1) <0))then(s_0.1.length:Int)else(ah s_0.1 s_0.1)))).drop 0),_,_,_,[(2,.rs .judgement a2),(4,.ptr 1 0),(6,.os 4),(8,.ptr 3 0),(9,.v (.int .i64 (bif(decide ((ah s_0.1 s_0.1) <0))then(s_0.1.length:Int)else(ah s_0.1 s_0.1)))),(10,.ptr 6 0)],(fun s_1=>[.dead,.cells [.rs .claim s_0.1],.mp .int .fnc fu none,.cells [.os 2],.row .claim s_0.2,.dead,.cells [.os 7],.row .claim s_1]),(fun x=>x.elim),[0,1,2,3,4,5,6,5],?_,rfl,hok1,nbl rfl,?_,vo a2 ((s_0.1.getD 0 (default:Claim)).hour) _ hb1,fun z_1 s_1 hq1=>⟨rfl,L0,fun l=>?_,fun l=>?_,?_⟩,fun s_1=>?_,fun y=>?_⟩
     ·simp only[go_sem,e1_0,e1_1,e1_2,e1_3,e1_4,e1_5,e1_6]
     ·simp only[go_sem,Nat.reduceBEq,Nat.reduceLeDiff,Nat.reduceLT,decide_true,Nat.reduceAdd,Nat.reduceSub,Nat.reduceMul,Int.reduceLE,Int.reduceLT,Int.reduceToNat,Int.reduceNeg,reduceCtorEq,wu,ox,List.flatMap_cons,List.flatMap_nil,List.nil_append,List.append_nil,List.map_nil,e1_0,e1_1,e1_2,e1_3,e1_4,e1_5,e1_6];all_goals (first|done|decide|(repeat' (first|refine And.intro ?_ ?_|rfl|decide)))
     ·simp only[am,and_self,true_and,and_true]
     ·simp only[am,and_self,true_and,and_true]
     ·unfold cd at hq1;rcases Bool.eq_false_or_eq_true (z_1.kind==1)with hk0|hk0
      ·exact zq57 (jl [0,1,2,3,4,5,6,9]) (jl [0,1,2,3,4,5,6,10]) (jl [0,1,2,3,4,5,6,7])
      rcases Bool.eq_false_or_eq_true (z_1.kind==2)with hk1|hk1
      ·exact zq58 (jl [0,1,2,3,4,5,6,9]) (jl [0,1,2,3,4,5,6,10]) (jl [0,1,2,3,4,5,6,7])
      rcases Bool.eq_false_or_eq_true (z_1.kind==3)with hk2|hk2
      ·exact zq59 (jl [0,1,2,3,4,5,6,9]) (jl [0,1,2,3,4,5,6,10]) (jl [0,1,2,3,4,5,6,7])
      rcases Bool.eq_false_or_eq_true (z_1.kind==4)with hk3|hk3
      ·exact Ys (jl [0,1,2,3,4,5,6,9]) (jl [0,1,2,3,4,5,6,10]) (jl [0,1,2,3,4,5,6,7])
      exact Ys (jl [0,1,2,3,4,5,6,9]) (jl [0,1,2,3,4,5,6,10]) (jl [0,1,2,3,4,5,6,7])
     ·exact Yt (jl [0,1,2,3,4,5,6,9]) (jl [0,1,2,3,4,5,6,10]) (jl [0,1,2,3,4,5,6,7])
     ·exact Yt (jl [0,1,2,3,4,5,6,9]) (jl [0,1,2,3,4,5,6,10]) (jl [0,1,2,3,4,5,6,7])
   ·unfold gb at hq0;exact G4 (jl [0,1,2,3,8]) (jl [0,1,2,3,4])
 ·unfold ae Tryz.f12;try unfold ax
  exact zq64
theorem G5 (x:Int)(l:List Int):io (x::l)=if x=0 then io l else x:=by
 have key:∀ l:List Int,io l=match gD (ρ:=Int) (fun(x:Int) (_:Unit) =>bif(x !=0)then .inl x else .inr ()) l ()with| .inl y=>y| .inr _=>0:=fun l=>by
  unfold io;have:=yQ (ρ:=Int) (fun(x:Int) (_:Unit) =>bif(x !=0)then .inl x else .inr ()) 0 l ();rw[←this];rfl
 rw[key,key];simp only[gD];by_cases h:x=0
 ·subst h;rfl
 ·have:(x !=0)=true:=by simpa using h
  rw[if_neg h,this];rfl
theorem IM:io []=0:=rfl
theorem Cy:∀ l:List (Int×Int),(io (l.map fun p=>cr p.1 p.2) <0↔s6 l)
 | [] =>by simp[IM,s6]
 |(a,b)::r=>by
  have hc:=wI a b;simp only[List.map_cons,G5,hc,s6];rcases Int.lt_trichotomy a b with h|h|h
  ·simp[h]
  ·subst h;simp only[Int.lt_irrefl,if_false,if_true,true_and,false_or,gt_iff_lt];exact Cy r
  ·have h1:¬a<b:=by omega
   have h2:a≠b:=by omega
   simp[h1,h2,h]
def xo (a b:Claim):Prop:=s6 [(a.hour,b.hour),(a.rank,b.rank),(a.right,b.right),(a.farm,b.farm)]
theorem y3 (a b:Claim):kK a b<0↔xo a b:=Cy [(a.hour,b.hour),(a.rank,b.rank),(a.right,b.right),(a.farm,b.farm)]
theorem yj (a b:Claim):aH a b=decide (kK a b<0):=by
 rw[Bool.eq_iff_iff,decide_eq_true_eq,y3];unfold aH;simp only[xo,s6,and_false,or_false];by_cases h1:a.hour=b.hour
 ·rw[show(a.hour !=b.hour)=false by simpa using h1,cond_false];by_cases h2:a.rank=b.rank
  ·rw[show(a.rank !=b.rank)=false by simpa using h2,cond_false];by_cases h3:a.right=b.right
   ·rw[show(a.right !=b.right)=false by simpa using h3,cond_false,decide_eq_true_eq];omega
   ·rw[show(a.right !=b.right)=true by simpa using h3,cond_true,decide_eq_true_eq];omega
  ·rw[show(a.rank !=b.rank)=true by simpa using h2,cond_true,decide_eq_true_eq];omega
 ·rw[show(a.hour !=b.hour)=true by simpa using h1,cond_true,decide_eq_true_eq];omega
theorem sI {α:Type}(l:List α)(d:α){k:Nat}(hk:k<l.length):l.getD k d∈l:=by rw[qF l d hk];exact List.getElem_mem hk
theorem IN {a b c:Claim}(h1:xo a b)(h2:xo b c):xo a c:=by simp only[xo,s6,and_false,or_false]at *;omega
structure FineC (d:District)(x:Claim):Prop where
 r0:0≤x.right
 r1:x.right< (d.rights.length:Int)
 f0:0≤x.farm
 f1:x.farm< (d.farms.length:Int)
 h0:0≤x.hour
 h1:x.hour<d.hours
 l0:1≤x.litres
 l1:x.litres≤1073741824
 kind:(d.rights.getD x.right.toNat default).kind=1
 rank:(d.rights.getD x.right.toNat default).rank=x.rank
def y4 (d:District)(x:Claim):Bool:=(((((((decide (x.right≥0))&&(decide (x.right< (d.rights.length:Int))))&&(decide (x.farm≥0)))&&(decide (x.farm< (d.farms.length:Int))))&&(decide (x.hour≥0)))&&(decide (x.hour<d.hours)))&&(decide (x.litres≥1)))&&(decide (x.litres≤1073741824))
theorem xh (d:District)(x:Claim):y4 d x=true↔(0≤x.right∧x.right< (d.rights.length:Int))∧(0≤x.farm∧x.farm< (d.farms.length:Int))∧(0≤x.hour∧x.hour<d.hours)∧(1≤x.litres∧x.litres≤1073741824):=by
 unfold y4;simp only[Bool.and_eq_true,decide_eq_true_eq];omega
theorem D4 (d:District)(x:Claim):FineC d x↔y4 d x=true∧(d.rights.getD x.right.toNat default).kind=1∧(d.rights.getD x.right.toNat default).rank=x.rank:=by
 rw[xh];exact⟨fun h=>⟨⟨⟨h.r0,h.r1⟩,⟨h.f0,h.f1⟩,⟨h.h0,h.h1⟩,h.l0,h.l1⟩,h.kind,h.rank⟩,fun h=>⟨h.1.1.1,h.1.1.2,h.1.2.1.1,h.1.2.1.2,h.1.2.2.1.1,h.1.2.2.1.2,h.1.2.2.2.1,h.1.2.2.2.2,h.2.1,h.2.2⟩⟩
theorem not8 (d:District)(x:Claim):((((((((decide (x.right<0)) ||(decide (x.right≥(d.rights.length:Int)))) ||(decide (x.farm<0))) ||(decide (x.farm≥(d.farms.length:Int)))) ||(decide (x.hour<0))) ||(decide (x.hour≥d.hours))) ||(decide (x.litres<1))) ||(decide (x.litres > 1073741824)))= !y4 d x:=by
 rw[Bool.eq_iff_iff,Bool.not_eq_true',←Bool.not_eq_true,xh];simp only[Bool.or_eq_true,decide_eq_true_eq];omega
theorem Fe (d:District)(x:Claim):tT d x∧(mv d x=true↔FineC d x):=by
 unfold tT mv;rw[not8,D4];cases h:y4 d x with
 |false=>exact⟨(fun h=>by cases h),by simp⟩
 |true=>
  have:=(xh d x).1 h;exact⟨fun _=>⟨this.1,fun _=>this.1⟩,by simp⟩
theorem N8 (d:District)(c:List Claim)(k:Nat)(hk:k<4097):gw d c k ()=pr d c k ()∧(gw d c k ()=.inr ()↔FineC d (c.getD k default)∧(0<k→kK (c.getD (k - 1) default) (c.getD k default) <0)):=by
 have hw:0<k→Int.toNat (i64.wrap ((k:Int) - 1))=k - 1:=fun h=>by rw[f8 (by omega) (by omega)];omega
 have e:(((((!(y4 d (c.getD k default))) ||((d.rights.getD (Int.toNat (c.getD k default).right) default).kind !=1)) ||((d.rights.getD (Int.toNat (c.getD k default).right) default).rank !=(c.getD k default).rank)) ||((decide ((k:Int) > 0))&&(decide ((kK (c.getD (Int.toNat (i64.wrap ((k:Int) - 1))) default) (c.getD k default))≥0)))))=(((!(mv d (c.getD k default))) ||((decide ((k:Int) > 0))&&(!(aH (c.getD (Int.toNat (i64.wrap ((k:Int) - 1))) default) (c.getD k default)))))):=by
  rw[yj];have h1:(((!(y4 d (c.getD k default))) ||((d.rights.getD (Int.toNat (c.getD k default).right) default).kind !=1)) ||((d.rights.getD (Int.toNat (c.getD k default).right) default).rank !=(c.getD k default).rank))= !(mv d (c.getD k default)):=by
   rw[Bool.eq_iff_iff,Bool.not_eq_true',←Bool.not_eq_true,(Fe _ _).2,D4];simp only[Bool.or_eq_true,Bool.not_eq_true',bne_iff_ne,ne_eq];cases y4 d (c.getD k default) <;>simp;constructor
   ·rintro (h|h) h2 h3
    ·exact h h2
    ·exact h h3
   ·intro h;by_cases h2:(d.rights.getD (Int.toNat (c.getD k default).right) default).kind=1
    ·exact .inr (h h2)
    ·exact .inl h2
  rw[h1];congr 2
  rw[←decide_not];exact decide_eq_decide.2 (by omega)
 refine⟨?_,?_⟩
 ·show(bif _ then Sum.inl ()else Sum.inr ())=(bif _ then Sum.inl ()else Sum.inr ());exact congrArg (fun b=>(bif b then Sum.inl ()else Sum.inr ():Unit⊕Unit)) e
 ·show(bif _ then Sum.inl ()else Sum.inr ())=_↔_;rw[uy];refine Iff.trans (b:=(((!(mv d (c.getD k default))) ||((decide ((k:Int) > 0))&&(!(aH (c.getD (Int.toNat (i64.wrap ((k:Int) - 1))) default) (c.getD k default))))))=false) (by rw[←e];rfl) ?_;rw[yj];rw[Bool.or_eq_false_iff,Bool.not_eq_false',(Fe _ _).2];by_cases hk0:0<k
  ·rw[hw hk0,decide_eq_true (show(k:Int) > 0 by omega)];simp[hk0]
  ·rw[decide_eq_false (show ¬ (k:Int) > 0 by omega)];simp[hk0]
theorem N9 (d:District)(c:List Claim):ph d c:=fun _ _ h _=>nr _ _ _ fun j _ _ hj=>by
 have hle:c.length≤4096:=by have:=of_decide_eq_false h;omega
 have h8:=xh d (c.getD j default);unfold y4 at h8;unfold lZ;refine⟨fun h=>?_,fun h=>?_,fun h h0=>?_⟩
 ·rw[Bool.not_eq_false']at h;exact(h8.1 h).1
 ·rw[Bool.or_eq_false_iff,Bool.not_eq_false']at h;exact(h8.1 h.1).1
 ·have h0:=of_decide_eq_true h0;rw[f8 (by omega) (by omega)];omega
theorem Lx (d:District)(c:List Claim):xI d c:=⟨DY d,fun _ _ h=>nr _ _ _ fun j _ _ hj=>fun _=>⟨(Fe _ _).1,fun _ h0=>by
 have h0:=of_decide_eq_true h0;have hle:c.length≤4096:=by have:=of_decide_eq_false h;omega
 rw[f8 (by omega) (by omega)];omega⟩⟩
theorem D5 {ρ σ:Type}{f g:Nat→σ→ρ⊕σ}:∀ (n i:Nat) (s:σ),(∀ j s,i≤j→j<i+n→f j s=g j s)→aq f n i s=aq g n i s
 |0,_,_,_=>rfl
 |n+1,i,s,h=>by
  rw[aq,aq,h i s (Nat.le_refl _) (by omega)];cases g i s with
  |inl x=>rfl
  |inr s'=>exact D5 n (i+1) s' fun j s h1 h2=>h j s (by omega) (by omega)
theorem D6 (d:District)(c:List Claim):bg d c=tB d c:=by
 unfold bg tB;rw[←wJ];cases bL d !=0 with
 |true=>rfl
 |false=>
  simp only[cond_false];by_cases hl:(c.length:Int) > 4096
  ·rw[decide_eq_true hl];rfl
  ·rw[decide_eq_false hl];simp only[cond_false];rw[D5 (f:=gw d c) (g:=pr d c) c.length 0 () fun j s _ hj=>(N8 d c j (by omega)).1];try rfl
theorem IP {d:District}{c:List Claim}(he:bL d=0)(hl:c.length≤4096)(h1:∀ x∈c,FineC d x)(h2:c.Pairwise xo):bg d c=0:=by
 unfold bg;rw[he,decide_eq_false (show ¬ (c.length:Int) > 4096 by omega)];simp only[bne_self_eq_false,cond_false];have:aq (gw d c) c.length 0 ()=.inr ():=jV.2 fun j hj=>((N8 d c j (by omega)).2).2 ⟨h1 _ (sI _ default hj),fun h0=>by
  rw[List.pairwise_iff_getElem]at h2;rw[y3,qF c default (show j - 1<c.length by omega),qF c default hj];exact h2 (j - 1) j (by omega) hj (by omega)⟩
 rw[this]
theorem yk {d:District}{c:List Claim}(h:bg d c=0):bL d=0∧c.length≤4096∧(∀ x∈c,FineC d x)∧c.Pairwise xo:=by
 unfold bg at h;cases he:(bL d !=0)with
 |true=>rw[he]at h;simp only[cond_true]at h;rw[h]at he;cases he
 |false=>
  rw[he]at h;simp only[cond_false]at h;by_cases hl:c.length≤4096
  ·rw[decide_eq_false (show ¬ (c.length:Int) > 4096 by omega)]at h;simp only[cond_false]at h;cases hr:aq (gw d c) c.length 0 ()with
   |inl y=>rw[hr]at h;cases h
   |inr s=>
    have h1:∀ k,k<c.length→FineC d (c.getD k default)∧(0<k→xo (c.getD (k - 1) default) (c.getD k default)):=fun k hk=>by
     have h2:=(N8 d c k (by omega)).2.1 (oR hr k (by omega) (by omega));exact⟨h2.1,fun h0=>(y3 _ _).1 (h2.2 h0)⟩
    have hlt:∀ k i,i<k→k<c.length→xo (c.getD i default) (c.getD k default):=fun k=>by
     induction k with
     |zero=>intro i hi;omega
     |succ k ih=>
      intro i hi hk;have h2:=(h1 (k+1) hk).2 (by omega);rw[Nat.add_sub_cancel]at h2;by_cases hik:i=k
      ·subst hik;exact h2
      ·exact IN (ih i (by omega) (by omega)) h2
    refine⟨by simpa using he,hl,fun x hx=>?_,?_⟩
    ·obtain⟨k,hk,rfl⟩:=List.getElem_of_mem hx;have:=(h1 k hk).1
     rwa[qF _ _ hk]at this
    ·rw[List.pairwise_iff_getElem];intro i j hi hj hij;have:=hlt j i hij hj
     rwa[qF _ _ hi,qF _ _ hj]at this
  ·rw[decide_eq_true (show(c.length:Int) > 4096 by omega)]at h;cases h
end Go.Sx
end
