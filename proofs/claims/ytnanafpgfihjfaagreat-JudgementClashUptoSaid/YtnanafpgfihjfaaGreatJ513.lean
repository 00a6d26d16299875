/- Part of the proof that the law JudgementClash returns true and leaves its arguments as they were, for all arguments of bulk at most 1048576 (the Upto form). -/
import Derived.Test.YtnanafpgfihjfaaGreatJ509
import Derived.Test.YtnanafpgfihjfaaGreatJ508
import Derived.Test.YtnanafpgfihjfaaGreatJ512
import Derived.Test.YtnanafpgfihjfaaGreatJ511
import Derived.Test.YtnanafpgfihjfaaGreatJ510
set_option linter.all false
set_option maxHeartbeats 4000000
set_option maxRecDepth 100000
section
namespace Go.Sx
open Go.Proofs
open IntKind (i64)
def gT (n:Int)(lo:Int)(hi:Int):Bool:=((decide (n>=lo))&&(decide (n<=hi)))
@[go_sem] def tp:List SV->Option Con:=(pI fun n=>(pI fun lo=>(pI fun hi=>(pE (.det True (.v (.bool (gT n lo hi))))))))
theorem wh:FnOk Tryz.prog 113 tp:=by
 have hG:ConsOk Tryz.prog (mkG [] []):=ar cg0 cg0;refine ay [.o] mixed ak hG (fn:=Tryz.f113) (c:=ae Tryz.f113) kr kr kr kr (cI fun n=>(cI fun lo=>(cI fun hi=>(ai (fun hp=>?_)))));dsimp only[ax]at hp;refine⟨nbl rfl,L0,ag _,?_⟩
 ·unfold ae Tryz.f113;try unfold gT
  exact zq1
@[go_sem] def zH (l_:List Int)(n:Int)(k_0:Nat)(s_0:Unit):Unit⊕Unit:=(bif((l_.getD k_0 0) ==n)then .inl ()else .inr ())
def AH (l_:List Int)(n:Int):Bool:=(match an (zH l_ n) l_.length 0 ()with| .inl x_0_0=>true| .inr s_0=>false)
@[go_sem] def A6:List SV->Option Con:=(pR .int fun l_=>(pI fun n=>(pE (.det True (.v (.bool (AH l_ n)))))))
theorem Gj:FnOk Tryz.prog 163 A6:=by
 have hG:ConsOk Tryz.prog (mkG [] []):=ar cg0 cg0;refine ay [.o] mixed ak hG (fn:=Tryz.f163) (c:=ae Tryz.f163) kr kr kr kr (bC fun l_=>(cI fun n=>(ai (fun hp=>?_))));dsimp only[ax]at hp;refine⟨nbl rfl,(fun id st=>bif Nat.beq id 0 then some (LCR (ρ:=Unit) (σ:=Unit) 0 [] [] (fun k_0 s_0=>⟨[(0,.rs .int l_),(1,.v (.int .i64 n)),(5,.v (.int .i64 (k_0:Int)))],[]⟩) (zH l_ n) pT l_.length () (True) (fun _=>.ret) (fun x_0_0=>⟨[(4,.v (.bool true))],[]⟩) st)else none),?_,?_⟩
 ·unfold ae Tryz.f163;simp only[am,true_and,and_true]
  ·refine kw (l_.length<=aD) mixed ak hG kr (fun _=>rfl) (l_.length:Int) rfl gA (fun hb0 k_0 s_0 hlt0 _ hw hc=>⟨L0,ag _,?_⟩) (fun hb0 s_0 hc=>?_) fun hb0 k_0 s_0=>?_
   ·exact bi (jl [])
   ·exact ba (jl [])
   ·exact zq7
 ·unfold ae Tryz.f163;try unfold AH
  exact zq1
@[go_sem] def zI (l_:List Int)(in_:List Int)(k_0:Nat)(s_0:Unit):Unit⊕Unit:=(bif(!(AH in_ (l_.getD k_0 0)))then .inl ()else .inr ())
def xG (l_:List Int)(in_:List Int):Bool:=(match an (zI l_ in_) l_.length 0 ()with| .inl x_0_0=>false| .inr s_0=>true)
@[go_sem] def A7:List SV->Option Con:=(pR .int fun l_=>(pR .int fun in_=>(pE (.det True (.v (.bool (xG l_ in_)))))))
theorem Gk:FnOk Tryz.prog 126 A7:=by
 have hG:ConsOk Tryz.prog (mkG [(163,fun l=>A6 (bp [.sl .int,.o] l))] []):=ar (cgc (Gj.norm [.sl .int,.o]) cg0) cg0;refine ay [.o] mixed ak hG (fn:=Tryz.f126) (c:=ae Tryz.f126) kr kr kr kr (bC fun l_=>(bC fun in_=>(ai (fun hp=>?_))));dsimp only[ax]at hp;refine⟨nbl rfl,(fun id st=>bif Nat.beq id 0 then some (LCR (ρ:=Unit) (σ:=Unit) 0 [] [] (fun k_0 s_0=>⟨[(0,.rs .int l_),(1,.rs .int in_),(5,.v (.int .i64 (k_0:Int)))],[]⟩) (zI l_ in_) pT l_.length () (True) (fun _=>.ret) (fun x_0_0=>⟨[(4,.v (.bool false))],[]⟩) st)else none),?_,?_⟩
 ·unfold ae Tryz.f126;simp only[am,true_and,and_true]
  ·refine kw (l_.length<=aD) mixed ak hG kr (fun _=>rfl) (l_.length:Int) rfl gA (fun hb0 k_0 s_0 hlt0 _ hw hc=>⟨L0,ag _,?_⟩) (fun hb0 s_0 hc=>?_) fun hb0 k_0 s_0=>?_
   ·exact bi (jl [])
   ·exact ba (jl [])
   ·exact zq7
 ·unfold ae Tryz.f126;try unfold xG
  exact zq1
@[go_sem] def vX (b:Cases)(l_:List Int)(k_0:Nat)(s_0:Unit):Unit⊕Unit:=(bif((!(gT (l_.getD k_0 0) 0 (i64.wrap ((b.sides.length:Int) - 1)))) ||((decide ((k_0:Int) > 0))&&(decide ((l_.getD k_0 0)<=(l_.getD (Int.toNat (i64.wrap ((k_0:Int) - 1))) 0)))))then .inl ()else .inr ())
def tq (b:Cases)(l_:List Int)(k_0:Nat)(s_0:Unit):Prop:=letI q0:=i64.wrap ((k_0:Int) - 1);(l_.length<=aD->(b.sides.length<=aD->((!(gT (l_.getD k_0 0) 0 (i64.wrap ((b.sides.length:Int) - 1))))=false->((decide ((k_0:Int) > 0))=true->(0<=q0/\q0< (l_.length:Int))))))
def sG (b:Cases)(l_:List Int):Bool:=(match an (vX b l_) l_.length 0 ()with| .inl x_0_0=>false| .inr s_0=>true)
def ua (b:Cases)(l_:List Int):Prop:=okI (vX b l_) (tq b l_) l_.length 0 ()
@[go_sem] def xl:List SV->Option Con:=(pD .cases fun b=>(pR .int fun l_=>(pE (.det (ua b l_) (.v (.bool (sG b l_)))))))
theorem zJ:FnOk Tryz.prog 70 xl:=by
 have hG:ConsOk Tryz.prog (mkG [(113,tp)] []):=ar (cgc wh cg0) cg0;refine ay [.o] mixed ak hG (fn:=Tryz.f70) (c:=ae Tryz.f70) kr kr kr kr (bk fun b=>(bC fun l_=>(ai (fun hp=>?_))));dsimp only[ax]at hp;unfold ua at hp;refine⟨nbl rfl,(fun id st=>bif Nat.beq id 0 then some (LCR (ρ:=Unit) (σ:=Unit) 1 [] [0] (fun k_0 s_0=>⟨[(1,.rs .int l_),(2,.ptr 0 0),(5,.v (.int .i64 (k_0:Int)))],[.cells (cellsOf .cases b)]⟩) (vX b l_) (tq b l_) l_.length () (True) (fun _=>.ret) (fun x_0_0=>⟨[(4,.v (.bool false))],[.dead]⟩) st)else none),?_,?_⟩
 ·unfold ae Tryz.f70;simp only[am,true_and,and_true]
  ·refine kw (l_.length<=aD) mixed ak hG kr (fun _=>rfl) (l_.length:Int) rfl gA (fun hb0 k_0 s_0 hlt0 hq0 hw hc=>⟨L0,ag _,?_⟩) (fun hb0 s_0 hc=>?_) fun hb0 k_0 s_0=>?_
   ·unfold tq at hq0;try simp only[hw,Int.toNat_natCast]at hq0
    exact bi (jl [0])
   ·exact ba (jl [0])
   ·exact zq7
 ·unfold ae Tryz.f70;try unfold sG
  exact zq1
@[go_sem] def rY (b:Cases)(l_:List Int)(side:Int)(k_0:Nat)(s_0:Unit):Unit⊕Unit:=(bif((b.sides.getD (Int.toNat (l_.getD k_0 0)) 0) !=side)then .inl ()else .inr ())
def p7 (b:Cases)(l_:List Int)(side:Int)(k_0:Nat)(s_0:Unit):Prop:=(l_.length<=aD->(0<=(l_.getD k_0 0)/\(l_.getD k_0 0) < (b.sides.length:Int)))
def vY (b:Cases)(facts:List Int)(l_:List Int)(side:Int):Bool:=(bif((!(sG b l_)) ||(!(xG l_ facts)))then false else(match an (rY b l_ side) l_.length 0 ()with| .inl x_0_0=>false| .inr s_0=>true))
def tu (b:Cases)(facts:List Int)(l_:List Int)(side:Int):Prop:=((ua b l_)/\(((!(sG b l_)) ||(!(xG l_ facts)))=false->okI (rY b l_ side) (p7 b l_ side) l_.length 0 ()))
@[go_sem] def xm:List SV->Option Con:=(pD .cases fun b=>(pR .int fun facts=>(pR .int fun l_=>(pI fun side=>(pE (.det (tu b facts l_ side) (.v (.bool (vY b facts l_ side)))))))))
theorem By:FnOk Tryz.prog 114 xm:=by
 have hG:ConsOk Tryz.prog (mkG [(70,fun l=>xl (bp [.st .cases,.sl .int] l)),(126,fun l=>A7 (bp [.sl .int,.sl .int] l))] []):=ar (cgc (zJ.norm [.st .cases,.sl .int]) (cgc (Gk.norm [.sl .int,.sl .int]) cg0)) cg0;refine ay [.o] mixed ak hG (fn:=Tryz.f114) (c:=ae Tryz.f114) kr kr kr kr (bk fun b=>(bC fun facts=>(bC fun l_=>(cI fun side=>(ai (fun hp=>?_))))));dsimp only[ax]at hp;unfold tu at hp;refine⟨nbl rfl,(fun id st=>bif Nat.beq id 0 then some (LCR (ρ:=Unit) (σ:=Unit) 1 [] [0] (fun k_0 s_0=>⟨[(2,.rs .int l_),(3,.v (.int .i64 side)),(4,.ptr 0 0),(10,.v (.int .i64 (k_0:Int)))],[.cells (cellsOf .cases b)]⟩) (rY b l_ side) (p7 b l_ side) l_.length () (True) (fun _=>.ret) (fun x_0_0=>⟨[(8,.v (.bool false))],[.dead]⟩) st)else none),?_,?_⟩
 ·unfold ae Tryz.f114;simp only[am,true_and,and_true]
  ·refine kw (l_.length<=aD) mixed ak hG kr (fun _=>rfl) (l_.length:Int) rfl gA (fun hb0 k_0 s_0 hlt0 hq0 hw hc=>⟨L0,ag _,?_⟩) (fun hb0 s_0 hc=>?_) fun hb0 k_0 s_0=>?_
   ·unfold p7 at hq0;try simp only[hw,Int.toNat_natCast]at hq0
    exact bi (jl [0])
   ·exact ba (jl [0])
   ·exact zq7
 ·unfold ae Tryz.f114;try unfold vY
  exact zq1
@[go_sem] def tv (a0:Cases)(k_0:Nat)(s_0:Unit):Unit⊕Unit:=(bif(!(gT (a0.sides.getD k_0 0) 0 1))then .inl ()else .inr ())
@[go_sem] def tw (a0:Cases)(k_1:Nat)(s_1:Unit):Unit⊕Unit:=letI q0:=a0.cases.getD k_1 default;letI q1:=a0.cases.getD (Int.toNat (i64.wrap ((k_1:Int) - 1))) default;(bif(((!(gT (q0.no) 0 1048576)) ||(!(gT (q0.hour) 0 4096))) ||(!(gT (q0.winner) 0 1)))then .inl ()else(bif((decide ((k_1:Int) > 0))&&((decide (q0.no<=q1.no)) ||(decide (q0.hour<q1.hour))))then .inl ()else(bif((!(sG a0 (q0.facts))) ||(!(vY a0 (q0.facts) (q0.reason) (q0.winner))))then .inl ()else .inr ())))
def qH (a0:Cases)(k_1:Nat)(s_1:Unit):Prop:=letI q0:=a0.cases.getD k_1 default;letI q1:=i64.wrap ((k_1:Int) - 1);letI q2:=a0.cases.getD (Int.toNat q1) default;letI q3:=decide ((k_1:Int) > 0);letI q4:=0<=q1/\q1< (a0.cases.length:Int);letI q5:=decide (q0.no<=q2.no);(a0.cases.length<=aD->((((!(gT (q0.no) 0 1048576)) ||(!(gT (q0.hour) 0 4096))) ||(!(gT (q0.winner) 0 1)))=false->((q3=true->q4)/\((q3=true->(q5=false->q4))/\((q3&&(q5||(decide (q0.hour<q2.hour))))=false->((ua a0 (q0.facts))/\((!(sG a0 (q0.facts)))=false->(tu a0 (q0.facts) (q0.reason) (q0.winner)))))))))
def A8 (a0:Cases):Int:=(bif((decide ((a0.sides.length:Int) > 32)) ||(decide ((a0.cases.length:Int) > 64)))then 2 else(match an (tv a0) a0.sides.length 0 ()with| .inl x_0_0=>520| .inr s_0=>(match an (tw a0) a0.cases.length 0 ()with| .inl x_1_0=>520| .inr s_1=>0)))
def yg (a0:Cases):Prop:=(a0.sides.length<=aD->(((decide ((a0.sides.length:Int) > 32)) ||(decide ((a0.cases.length:Int) > 64)))=false->(∀ s_0,an (tv a0) a0.sides.length 0 ()=.inr s_0->okI (tw a0) (qH a0) a0.cases.length 0 ())))
@[go_sem] def D3:List SV->Option Con:=(pD .cases fun a0=>(pE (.det (yg a0) (.v (.int .i64 (A8 a0))))))
theorem To {p:Prop}(h:p:=by simp only[go_sem,Nat.reduceBEq,Nat.reduceLeDiff,Nat.reduceLT,decide_true,Nat.reduceAdd,Nat.reduceSub,Nat.reduceMul,Int.reduceLE,Int.reduceLT,Int.reduceToNat,Int.reduceNeg,reduceCtorEq,hb1]):p:=h
theorem Pv:FnOk Tryz.prog 66 D3:=by
 have hG:ConsOk Tryz.prog (mkG [(70,fun l=>xl (bp [.st .cases,.sl .int] l)),(113,tp),(114,fun l=>xm (bp [.st .cases,.sl .int,.sl .int,.o] l))] []):=ar (cgc (zJ.norm [.st .cases,.sl .int]) (cgc wh (cgc (By.norm [.st .cases,.sl .int,.sl .int,.o]) cg0))) cg0;refine ay [.o] mixed ak hG (fn:=Tryz.f66) (c:=ae Tryz.f66) kr kr kr kr (bk fun a0=>(ai (fun hp=>?_)));dsimp only[ax]at hp;unfold yg at hp;refine⟨nbl rfl,(fun id st=>bif Nat.beq id 0 then some (LCR (ρ:=Unit) (σ:=Unit) 1 [] [0] (fun k_0 s_0=>⟨[(1,.ptr 0 0),(3,.v (.int .i64 (k_0:Int)))],[.cells (cellsOf .cases a0)]⟩) (tv a0) pT a0.sides.length () (True) (fun _=>.ret) (fun x_0_0=>⟨[(2,.v (.int .i64 520))],[.dead]⟩) st)else bif Nat.beq id 2 then some (LCR (ρ:=Unit) (σ:=Unit) 1 [] [0] (fun k_1 s_1=>⟨[(1,.ptr 0 0),(4,.v (.int .i64 (k_1:Int)))],[.cells (cellsOf .cases a0)]⟩) (tw a0) (qH a0) a0.cases.length () (True) (fun _=>.ret) (fun x_1_0=>⟨[(2,.v (.int .i64 520))],[.dead]⟩) st)else none),?_,?_⟩
 ·unfold ae Tryz.f66;simp only[am,true_and,and_true];refine⟨?_,?_⟩
  ·refine kw (a0.sides.length<=aD) mixed ak hG kr (fun _=>rfl) (a0.sides.length:Int) rfl gA (fun hb0 k_0 s_0 hlt0 _ hw hc=>⟨L0,ag _,?_⟩) (fun hb0 s_0 hc=>?_) fun hb0 k_0 s_0=>?_
   ·exact bi (jl [0])
   ·exact ba (jl [0])
   ·exact zq7
  ·refine kw (a0.cases.length<=aD) mixed ak hG kr (fun _=>rfl) (a0.cases.length:Int) rfl gA (fun hb1 k_1 s_1 hlt1 hq1 hw hc=>⟨L0,ag _,?_⟩) (fun hb1 s_1 hc=>?_) fun hb1 k_1 s_1=>?_
   ·unfold qH at hq1;try simp only[hw,Int.toNat_natCast]at hq1
    exact bi (jl [0])
   ·exact ba (jl [0])
   ·exact To
 ·unfold ae Tryz.f66;try unfold A8
  exact zq1
@[go_sem] def zK (b:Cases)(k_0:Nat)(s_0:Unit):Unit⊕Unit:=(bif((decide ((((b.cases.getD k_0 default).facts).length:Int) > 60)) ||(decide ((((b.cases.getD k_0 default).reason).length:Int) > 60)))then .inl ()else .inr ())
def xH (b:Cases):Bool:=(bif((decide ((b.cases.length:Int) > 100)) ||(decide ((b.sides.length:Int) > 100)))then false else(match an (zK b) b.cases.length 0 ()with| .inl x_0_0=>false| .inr s_0=>true))
@[go_sem] def A9:List SV->Option Con:=(pD .cases fun b=>(pE (.det True (.v (.bool (xH b))))))
theorem Gl:FnOk Tryz.prog 62 A9:=by
 have hG:ConsOk Tryz.prog (mkG [] []):=ar cg0 cg0;refine ay [.o] mixed ak hG (fn:=Tryz.f62) (c:=ae Tryz.f62) kr kr kr kr (bk fun b=>(ai (fun hp=>?_)));dsimp only[ax]at hp;refine⟨nbl rfl,(fun id st=>bif Nat.beq id 0 then some (LCR (ρ:=Unit) (σ:=Unit) 1 [] [0] (fun k_0 s_0=>⟨[(1,.ptr 0 0),(3,.v (.int .i64 (k_0:Int)))],[.cells (cellsOf .cases b)]⟩) (zK b) pT b.cases.length () (True) (fun _=>.ret) (fun x_0_0=>⟨[(2,.v (.bool false))],[.dead]⟩) st)else none),?_,?_⟩
 ·unfold ae Tryz.f62;simp only[am,true_and,and_true]
  ·refine kw (b.cases.length<=aD) mixed ak hG kr (fun _=>rfl) (b.cases.length:Int) rfl gA (fun hb0 k_0 s_0 hlt0 _ hw hc=>⟨L0,ag _,?_⟩) (fun hb0 s_0 hc=>?_) fun hb0 k_0 s_0=>?_
   ·exact bi (jl [0])
   ·exact ba (jl [0])
   ·exact zq7
 ·unfold ae Tryz.f62;try unfold xH
  exact zq1
end Go.Sx
end
section
namespace Go.Sx
open Go.RowKit
def Vr (h:List Ob):Option Con->Option HCon
 |some (.det p s) =>some (jQ p (Gh 0 (aJ 3 s) (iH 3 0 s)) (h.map fun _=>.dead))
 |_=>none
def eatC (C:List SV->Option Con)(l:List SV)(h:List Ob):Option HCon:=Vr h (C (l.map (fM h 6)))
@[go_sem] theorem abH {C:List SV->Option Con}{l:List SV}{h:List Ob}:eatC C l h=Vr h (C (l.map (fM h 6))):=(rfl)
@[go_sem] theorem ZZ {h:List Ob}{p:Prop}{s:SV}:Vr h (some (.det p s))=some (jQ p (Gh 0 (aJ 3 s) (iH 3 0 s)) (h.map fun _=>.dead)):=(rfl)
section
variable {P:Program}{F:Nat->Prop}{own:Own}{w w':World}
def Pw (own:Own):Own:=fun i=>(own i).map fun hd=>{ hd with bs:=[]}
theorem Sg {b:Nat}(hb:¬F b):¬bZ F (Pw own) b:=by
 rintro (hf| ⟨id,hd,e,hm⟩)
 ·exact hb hf
 ·unfold Pw at e;cases h:own id with
  |none=>rw[h]at e;cases e
  |some x=>rw[h]at e;cases e;cases hm
end
def Ln (h:List Ob):Option Con->Option HCon
 |some (.det p s) =>some (jQ p (D2 0 (aJ 3 s) (iH 3 0 s)) (h.map fun _=>.dead))
 |_=>none
def H9 (C:List SV->Option Con)(l:List SV)(h:List Ob):Option HCon:=Ln h (C (l.map (fM h 6)))
@[go_sem] theorem Z0 {C:List SV->Option Con}{l:List SV}{h:List Ob}:H9 C l h=Ln h (C (l.map (fM h 6))):=(rfl)
@[go_sem] theorem XC {h:List Ob}{p:Prop}{s:SV}:Ln h (some (.det p s))=some (jQ p (D2 0 (aJ 3 s) (iH 3 0 s)) (h.map fun _=>.dead)):=(rfl)
section
variable {P:Program}{F:Nat->Prop}{own:Own}{w w':World}
theorem FnOk.eat2 {f:FuncId}{C:List SV->Option Con}(hf:FnOk P f C):FnOkO P f (H9 C) where
 enter:=fun l h c e=>by
  unfold H9 at e;cases hc:C (l.map (fM h 6))with
  |none=>rw[hc]at e;cases e
  |some c'=>exact hf.enter _ c' hc
 calls:=fun l h c e hp F own w vs hH hr=>by
  unfold H9 at e;cases hc:C (l.map (fM h 6))with
  |none=>rw[hc]at e;cases e
  |some c'=>
   rw[hc]at e;cases c' with
   |det p s=>
    simp only[Ln,Option.some.injEq]at e;subst e;have n0:∀ {F':Nat->Prop} {w1:World},(∀ b,F' b->b<w1.heap.size)->Hp F' cO w1 []:=fun hf=>⟨(fun id hd h=>by cases h),hf,(fun id hd b h=>by cases h),(fun i j hi hj b h=>by cases h),(fun id hd b h=>by cases h),(fun id h=>by cases h)⟩;have hE:∀ {id:Nat} {hd:Hd},Pw own id=some hd->hd.bs=[]/\id<h.length:=fun {id hd} h=>by
     unfold Pw at h;cases ho:own id with
     |none=>rw[ho]at h;cases h
     |some x=>rw[ho]at h;cases h;exact⟨rfl,hH.dom id x ho⟩
    refine(hf.calls _ _ hc hp F w vs hH.foreign ⟨by simpa using hr.1,fun j s hj=>?_⟩).mono ?_
    ·obtain⟨x,hx,rfl⟩:=cr hj;exact vJ hH 6 x _ (hr.2 j x hx)
    ·rintro e w' (⟨s',u,own',h1,h2,h3,h4⟩ | ⟨x,hx,_⟩)
     ·cases h1;obtain⟨own2,q1,q2,q3,q4⟩:=Ap (n0 hH.foreign) (.inl fun b=>⟨fun h=>.inl h,fun h=>h.elim id fun⟨_,_,h,_⟩ =>by cases h⟩) h4 h3;have q5:=H8 (n0:=0) q1 _ _ q3;refine⟨(),Pw own,trivial,⟨u,h2,?_⟩,?_,?_,by simp⟩
      ·refine q5.carry ⟨fun id hd h=>by simp[D0]at h,fun b _ hb=>⟨Sg fun hf=>hb (.inl hf),rfl⟩⟩
      ·refine⟨fun id hd h=>by rw[List.length_map];exact(hE h).2,fun b hb=>Nat.lt_of_lt_of_le (hH.foreign b hb) h4.size,fun id hd b h hm=>?_,fun i j hi hj b h _ hm=>?_,fun id hd b h hm=>?_,fun id hd=>?_⟩
       ·rw[(hE h).1]at hm;cases hm
       ·rw[(hE h).1]at hm;cases hm
       ·rw[(hE h).1]at hm;cases hm
       ·rw[qM,List.getElem?_map]at hd;cases ho:h[id]? <;>rw[ho]at hd <;>simp[c7]at hd
      ·refine⟨fun id hd h=>?_,fun id hd b h hm=>?_,h4.os,h4.tape,h4.output,h4.size,fun k hk=>h4.block k hk.1⟩
       ·exact⟨{ hd with bs:=[]},by show(own id).map _=_;rw[show own id=some hd from h];rfl,rfl,rfl,rfl⟩
       ·rw[(hE h).1]at hm;cases hm
     ·cases hx
   |_=>cases e
end
end Go.Sx
end
section
namespace Go.Sx
open Go.Proofs
open IntKind (i64)
def nB:=([(fh 0 0 3 4),(fh 1 1 3 4),(fh 2 0 3 1),(fh 0 0 5 4)])
def p8:=([({ no:=0,hour:=0,kind:=1,farm:=0,other:=0,since:=0,to:=0,n:=1,of_:=0}:Judgement)])
def kO:=([({ no:=1,hour:=0,kind:=3,farm:=0,other:=2,since:=0,to:=7,n:=5,of_:=0}:Judgement)])
def nC:=([(fh 0 0 3 3),(fh 0 2 3 1),(fh 1 1 3 4),(fh 2 2 3 4),(fh 0 2 5 4)])
def nD:=(bw cW p8)
def jq:=(dU cW iS kO)
def nE:=(jq.1)
def gU:=([({ no:=1,hour:=3,kind:=2,farm:=0,other:=0,since:=0,to:=4,n:=5,of_:=0}:Judgement),({ no:=2,hour:=4,kind:=4,farm:=1,other:=2,since:=0,to:=0,n:=9,of_:=0}:Judgement)])
def nF:=([({ no:=4,hour:=0,question:=1,plea:=({ facts:=[1],clauses:=[]}:Plea),facts:=[0,1]}:Suit),({ no:=5,hour:=0,question:=2,plea:=({ facts:=[],clauses:=[]}:Plea),facts:=[0]}:Suit)])
def iA:=(fY cW gU 4)
def gV:=(iA.1)
def jr:=(dU cW iS gU)
def nG:=(jr.1)
def eF:=(gV.length:Int)
def nH:=(gV.getD 2 (0:Int))
def kP:=(gV.getD 1 (0:Int))
def jt:=(gV.getD 0 (0:Int))
def nI:=(dF ({ sides:=[0,1],cases:=[]}:Cases) nF)
def jV:=(nI.2)
def oz:=(qv nE nC)
def jW:=((nI.1).cases)
def fq:=(jW.length:Int)
def jX:=(jW.getD 1 (default:Case))
def gM:=(jW.getD 0 (default:Case))
def lT:=(gM.reason)
def jY:=(lT.length:Int)
def lU:=(lT.getD 0 (0:Int))
def oA:=(qv nG nB)
def qI:Bool:=(bif(((((jr.2 !=0) ||(jq.2 !=0)) ||(iA.2 !=0)) ||((fY cW ([]) 9).2 !=1)) ||(nD !=530))then false else(bif(!oA)then false else(bif(!oz)then false else(bif((((eF !=3) ||(jt !=0)) ||(kP !=9)) ||(nH !=(-9)))then false else(bif(((jV !=0) ||(fq !=2)) ||(jY !=1))then false else((((gM.winner==0)&&(lU==0))&&(jX.winner==0))&&(jX.no==5)))))))
def p9:Prop:=((qQ)/\((eJ cW iS gU)/\((eJ cW iS kO)/\((jG cW gU 4)/\((jG cW ([]) 9)/\((((((jr.2 !=0) ||(jq.2 !=0)) ||(iA.2 !=0)) ||((fY cW ([]) 9).2 !=1))=false->(iC cW p8))/\((((((jr.2 !=0) ||(jq.2 !=0)) ||(iA.2 !=0)) ||((fY cW ([]) 9).2 !=1)) ||(nD !=530))=false->((pL nG nB)/\((!oA)=false->((pL nE nC)/\((!oz)=false->(gV.length<=aD->(((eF !=3)=false->(0<=0/\0<eF))/\((((eF !=3) ||(jt !=0))=false->(0<=1/\1<eF))/\(((((eF !=3) ||(jt !=0)) ||(kP !=9))=false->(0<=2/\2<eF))/\(((((eF !=3) ||(jt !=0)) ||(kP !=9)) ||(nH !=(-9)))=false->((g8 ({ sides:=[0,1],cases:=[]}:Cases) nF)/\((((jV !=0) ||(fq !=2))=false->(0<=0/\0<fq))/\((((jV !=0) ||(fq !=2)) ||(jY !=1))=false->((0<=0/\0<fq)/\(((gM.winner==0)=true->(0<=0/\0<fq))/\(((gM.winner==0)=true->(0<=0/\0<jY))/\((((gM.winner==0)&&(lU==0))=true->(0<=1/\1<fq))/\((((gM.winner==0)&&(lU==0))&&(jX.winner==0))=true->(0<=1/\1<fq)))))))))))))))))))))))))
@[go_sem] def zL:List SV->Option Con:=(pE (.det (p9) (.v (.bool (qI)))))
theorem D4:FnOk Tryz.prog 10 zL:=by
 have hG:ConsOk Tryz.prog (mkG [(12,fun l=>sg (bp [.st .district,.sl .claim,.sl .judgement] l)),(14,fun l=>tX (bp [.st .district,.sl .judgement,.o] l)),(16,fun l=>mt (bp [.st .district,.sl .judgement] l)),(18,fun l=>zr (bp [.sl .claim,.sl .claim] l)),(38,yd),(39,ye),(40,um)] [(21,H9 (fun l=>oL (bp [.st .cases,.sl .suit] l)))]):=ar (cgc (xg.norm [.st .district,.sl .claim,.sl .judgement]) (cgc (yK.norm [.st .district,.sl .judgement,.o]) (cgc (oW.norm [.st .district,.sl .judgement]) (cgc (DT.norm [.sl .claim,.sl .claim]) (cgc C9 (cgc C_ (cgc w5 cg0))))))) (cgc (FnOk.eat2 (ve.norm [.st .cases,.sl .suit])) cg0);refine ay [.o] mixed ak hG (fn:=Tryz.f10) (c:=ae Tryz.f10) kr kr kr kr (ai (fun hp=>?_));dsimp only[ax]at hp;unfold p9 at hp;try simp only[nB,p8,kO,nC,nD,jq,nE,gU,nF,iA,gV,jr,nG,eF,nH,kP,jt,nI,jV,oz,jW,fq,jX,gM,lT,jY,lU,oA]at hp
 refine⟨nbl rfl,L0,ag _,?_⟩
 ·unfold ae Tryz.f10;try unfold qI
  simp (maxSteps:=1000000) only[go_sem,Nat.reduceBEq,Nat.reduceLeDiff,Nat.reduceLT,decide_true,Nat.reduceAdd,Nat.reduceSub,Nat.reduceMul,Int.reduceLE,Int.reduceLT,Int.reduceToNat,Int.reduceNeg,reduceCtorEq,nB,p8,kO,nC,nD,jq,nE,gU,nF,iA,gV,jr,nG,eF,nH,kP,jt,nI,jV,oz,jW,fq,jX,gM,lT,jY,lU,oA];all_goals exact cl
instance decR {ρ σ:Type}{P:σ->Prop}[∀ s,Decidable (P s)]:(x:ρ⊕σ)->Decidable (∀ s,x=.inr s->P s)
 | .inl _=>.isTrue fun _ e=>nomatch e
 | .inr s=>match (inferInstance:Decidable (P s))with
  | .isTrue h=>.isTrue fun _ e=>by cases e;exact h
  | .isFalse h=>.isFalse fun g=>h (g s rfl)
instance decX {ρ σ:Type}{P:ρ->Prop}[∀ s,Decidable (P s)]:(x:ρ⊕σ)->Decidable (∀ s,x=.inl s->P s)
 | .inr _=>.isTrue fun _ e=>nomatch e
 | .inl s=>match (inferInstance:Decidable (P s))with
  | .isTrue h=>.isTrue fun _ e=>by cases e;exact h
  | .isFalse h=>.isFalse fun g=>h (g s rfl)
instance decN {ρ σ:Type}:(x:ρ⊕σ)->Decidable (∀ s,x≠ .inr s)
 | .inl _=>.isTrue fun _ e=>nomatch e
 | .inr s=>.isFalse fun g=>g s rfl
def Z1 {ρ σ:Type}(step:Nat->σ->ρ⊕σ)(p:Nat->σ->Prop)(D:∀ k s,Decidable (p k s)):(n i:Nat)->(s:σ)->Decidable (okI step p n i s)
 |0,_,_=>.isTrue trivial
 |n+1,i,s=>match D i s with
  | .isFalse h=>.isFalse fun g=>h g.1
  | .isTrue h=>match e:step i s with
   | .inl _=>.isTrue ⟨h,fun s' e'=>by rw[e]at e';cases e'⟩
   | .inr s'=>match Z1 step p D n (i+1) s' with
    | .isTrue g=>.isTrue ⟨h,fun s'' e'=>by rw[e]at e';cases e';exact g⟩
    | .isFalse g=>.isFalse fun q=>g (q.2 s' e)
def Z2 {ρ σ τ:Type}(step:τ->σ->ρ⊕σ)(p:τ->σ->Prop)(D:∀ k s,Decidable (p k s)):(l:List τ)->(s:σ)->Decidable (okL step p l s)
 | [],_=>.isTrue trivial
 |x::l,s=>match D x s with
  | .isFalse h=>.isFalse fun g=>h g.1
  | .isTrue h=>match e:step x s with
   | .inl _=>.isTrue ⟨h,fun s' e'=>by rw[e]at e';cases e'⟩
   | .inr s'=>match Z2 step p D l s' with
    | .isTrue g=>.isTrue ⟨h,fun s'' e'=>by rw[e]at e';cases e';exact g⟩
    | .isFalse g=>.isFalse fun q=>g (q.2 s' e)
instance decI' {ρ σ:Type}{step:Nat->σ->ρ⊕σ}{p:Nat->σ->Prop}[D:∀ k s,Decidable (p k s)]{n i:Nat}{s:σ}:Decidable (okI step p n i s):=Z1 step p D n i s
instance decL' {ρ σ τ:Type}{step:τ->σ->ρ⊕σ}{p:τ->σ->Prop}[D:∀ k s,Decidable (p k s)]{l:List τ}{s:σ}:Decidable (okL step p l s):=Z2 step p D l s
instance precedents_read_l0_p_d (a0:Cases)(k_0:Nat)(s_0:Int×Int):Decidable (eh a0 k_0 s_0):=by unfold eh;repeat (first|infer_instance|refine @instDecidableAnd _ _ ?_ ?_|refine @instDecidableForall _ _ ?_ ?_)
instance precedents_of_l0_p_d (l_:List Int)(many:Int)(k_0:Nat)(s_0:Int×Int):Decidable (i7 l_ many k_0 s_0):=by unfold i7;repeat (first|infer_instance|refine @instDecidableAnd _ _ ?_ ?_|refine @instDecidableForall _ _ ?_ ?_)
instance precedents_of_p_d (l_:List Int)(many:Int):Decidable (gX l_ many):=by unfold gX;repeat (first|infer_instance|refine @instDecidableAnd _ _ ?_ ?_|refine @instDecidableForall _ _ ?_ ?_)
instance precedents_read_l1_p_d (a0:Cases)(s_0:Int×Int)(k_1:Nat)(s_1:List PrecedentsDecided×Int×Int×Int):Decidable (ei a0 s_0 k_1 s_1):=by unfold ei;repeat (first|infer_instance|refine @instDecidableAnd _ _ ?_ ?_|refine @instDecidableForall _ _ ?_ ?_)
instance precedents_read_p_d (a0:Cases):Decidable (fH a0):=by unfold fH;repeat (first|infer_instance|refine @instDecidableAnd _ _ ?_ ?_|refine @instDecidableForall _ _ ?_ ?_)
instance precedents_Check_p_d (b:Cases):Decidable (f_ b):=by unfold f_;repeat (first|infer_instance|refine @instDecidableAnd _ _ ?_ ?_|refine @instDecidableForall _ _ ?_ ?_)
instance pleas_rising_l0_p_d (l_:List Int)(k_0:Nat)(s_0:Unit):Decidable (jK l_ k_0 s_0):=by unfold jK;repeat (first|infer_instance|refine @instDecidableAnd _ _ ?_ ?_|refine @instDecidableForall _ _ ?_ ?_)
instance pleas_rising_p_d (l_:List Int):Decidable (ji l_):=by unfold ji;repeat (first|infer_instance|refine @instDecidableAnd _ _ ?_ ?_|refine @instDecidableForall _ _ ?_ ?_)
instance pleas_Check_l0_p_d (a0:Plea)(k_0:Nat)(s_0:Bool×Int):Decidable (kJ a0 k_0 s_0):=by unfold kJ;repeat (first|infer_instance|refine @instDecidableAnd _ _ ?_ ?_|refine @instDecidableForall _ _ ?_ ?_)
instance pleas_strict_p_d (p:Plea):Decidable (ix p):=by unfold ix;repeat (first|infer_instance|refine @instDecidableAnd _ _ ?_ ?_|refine @instDecidableForall _ _ ?_ ?_)
theorem H_ {ρ σ:Type}{step:Nat->σ->ρ⊕σ}{p q:Nat->σ->Prop}(h:∀ k s,p k s->q k s):∀ (n i:Nat) (s:σ),okI step p n i s->okI step q n i s
 |0,_,_,_=>trivial
 |n+1,i,s,g=>⟨h i s g.1,fun s' e=>H_ h n (i+1) s' (g.2 s' e)⟩
def Vs (k_0:Nat)(s_0:List Int×Int):Prop:=(decide (s_0.2<=32))=true->(s_0.2 !=0)=true->aA[s_0.1.length]? =some s_0.2
instance litq_d (k_0:Nat)(s_0:List Int×Int):Decidable (Vs k_0 s_0):=by unfold Vs;infer_instance
theorem Px:fj ((aA).map Dq):=by
 refine⟨H_ (p:=Vs) (fun k s h=>?_) 66 0 _ (of_decide_eq_true kr),of_decide_eq_true kr,fun x e=>?_⟩
 ·intro h1;refine⟨fun h2=>?_,fun h2=>h2⟩;rw[List.getElem?_map,h h1 h2];rfl
 ·rw[List.length_map];unfold aA;rw[e]
instance pleas_literals_1_p_d:Decidable (fj ((aA).map Dq)):=.isTrue Px
instance pleas_Check_p_d (a0:Plea):Decidable (iX a0):=by unfold iX;repeat (first|infer_instance|refine @instDecidableAnd _ _ ?_ ?_|refine @instDecidableForall _ _ ?_ ?_)
instance pleas_court_derive_l1_p_d (facts:List Int)(clauses:List Clause)(strict_:List (Int×Bool))(s_0:List (Int×Int)×List Reason)(z_1:Int)(s_1:List Reason):Decidable (c5 facts clauses strict_ s_0 z_1 s_1):=by unfold c5;repeat (first|infer_instance|refine @instDecidableAnd _ _ ?_ ?_|refine @instDecidableForall _ _ ?_ ?_)
instance pleas_court_derive_l0_p_d (facts:List Int)(clauses:List Clause)(strict_:List (Int×Bool))(k_0:Nat)(s_0:List (Int×Int)×List Reason):Decidable (gh facts clauses strict_ k_0 s_0):=by unfold gh;repeat (first|infer_instance|refine @instDecidableAnd _ _ ?_ ?_|refine @instDecidableForall _ _ ?_ ?_)
instance pleas_court_derive_p_d (facts:List Int)(clauses:List Clause)(strict_:List (Int×Bool))(known_:List (Int×Int)):Decidable (eo facts clauses strict_ known_):=by unfold eo;repeat (first|infer_instance|refine @instDecidableAnd _ _ ?_ ?_|refine @instDecidableForall _ _ ?_ ?_)
instance pleas_Answer_p_d (p:Plea)(q:Int):Decidable (iz p q):=by unfold iz;repeat (first|infer_instance|refine @instDecidableAnd _ _ ?_ ?_|refine @instDecidableForall _ _ ?_ ?_)
instance precedents_ask_p_d (b:Cases)(l_:List Int)(side:Int):Decidable (iY b l_ side):=by unfold iY;repeat (first|infer_instance|refine @instDecidableAnd _ _ ?_ ?_|refine @instDecidableForall _ _ ?_ ?_)
instance precedents_court_missing_p_d (c:PrecedentsCourt)(x:PrecedentsDecided)(facts:Int):Decidable (ff c x facts):=by unfold ff;repeat (first|infer_instance|refine @instDecidableAnd _ _ ?_ ?_|refine @instDecidableForall _ _ ?_ ?_)
instance precedents_Binds_1_p_d (x:PrecedentsDecided)(side_:Int)(facts_:Int)(c_:PrecedentsCourt):Decidable (gc x side_ facts_ c_):=by unfold gc;repeat (first|infer_instance|refine @instDecidableAnd _ _ ?_ ?_|refine @instDecidableForall _ _ ?_ ?_)
instance precedents_first_precedents_decided_b_l0_p_d (l_:List PrecedentsDecided)(side_:Int)(facts_:Int)(c_:PrecedentsCourt)(k_0:Nat)(s_0:Int):Decidable (be l_ side_ facts_ c_ k_0 s_0):=by unfold be;repeat (first|infer_instance|refine @instDecidableAnd _ _ ?_ ?_|refine @instDecidableForall _ _ ?_ ?_)
instance precedents_first_precedents_decided_b_p_d (l_:List PrecedentsDecided)(fr:Int)(side_:Int)(facts_:Int)(c_:PrecedentsCourt):Decidable (bT l_ fr side_ facts_ c_):=by unfold bT;repeat (first|infer_instance|refine @instDecidableAnd _ _ ?_ ?_|refine @instDecidableForall _ _ ?_ ?_)
instance precedents_Binds_p_d (b:Cases)(l_:List Int)(side:Int):Decidable (cT b l_ side):=by unfold cT;repeat (first|infer_instance|refine @instDecidableAnd _ _ ?_ ?_|refine @instDecidableForall _ _ ?_ ?_)
instance judgement_Decide_k_l0_p_d (sides:List Int)(a1:Suit)(k_0:Nat)(s_0:List Int):Decidable (gi sides a1 k_0 s_0):=by unfold gi;repeat (first|infer_instance|refine @instDecidableAnd _ _ ?_ ?_|refine @instDecidableForall _ _ ?_ ?_)
instance judgement_Decide_k_l1_p_d (sides:List Int)(a1:Suit)(k_1:Nat)(s_1:List Int):Decidable (gj sides a1 k_1 s_1):=by unfold gj;repeat (first|infer_instance|refine @instDecidableAnd _ _ ?_ ?_|refine @instDecidableForall _ _ ?_ ?_)
instance judgement_Decide_k_l2_p_d (sides:List Int)(a1:Suit)(k_2:Nat)(s_2:List Int):Decidable (gk sides a1 k_2 s_2):=by unfold gk;repeat (first|infer_instance|refine @instDecidableAnd _ _ ?_ ?_|refine @instDecidableForall _ _ ?_ ?_)
instance judgement_Decide_k_l3_p_d (sides:List Int)(a1:Suit)(k_3:Nat)(s_3:List Int):Decidable (gl sides a1 k_3 s_3):=by unfold gl;repeat (first|infer_instance|refine @instDecidableAnd _ _ ?_ ?_|refine @instDecidableForall _ _ ?_ ?_)
instance judgement_Decide_k_p_d (sides:List Int)(a1:Suit)(cs:List Case):Decidable (dw sides a1 cs):=by unfold dw;repeat (first|infer_instance|refine @instDecidableAnd _ _ ?_ ?_|refine @instDecidableForall _ _ ?_ ?_)
instance judgement_Sit_l0_p_d (sides:List Int)(l_:List Suit)(k_0:Nat)(s_0:List Case):Decidable (fo sides l_ k_0 s_0):=by unfold fo;repeat (first|infer_instance|refine @instDecidableAnd _ _ ?_ ?_|refine @instDecidableForall _ _ ?_ ?_)
instance judgement_Sit_p_d (a0:Cases)(l_:List Suit):Decidable (g8 a0 l_):=by unfold g8;repeat (first|infer_instance|refine @instDecidableAnd _ _ ?_ ?_|refine @instDecidableForall _ _ ?_ ?_)
theorem JX {ρ σ:Type}{step:Nat->σ->ρ⊕σ}(m:σ->Nat)(h:∀ k s s',step k s=.inr s'->m s'<m s):∀ (n i:Nat) (s:σ),m s<n->∀ z,an step n i s≠ .inr z
 |0,_,_,hm,_=>absurd hm (Nat.not_lt_zero _)
 |n+1,i,s,hm,z=>by
  rw[an];cases hs:step i s with
  |inl x=>simp
  |inr s'=>
   have:=h i s s' hs;exact JX m h n (i+1) s' (by omega) z
theorem Ia {ρ σ:Type}{step:Nat->σ->ρ⊕σ}:∀ (n i:Nat) (s:σ) {x:ρ},an step n i s=.inl x->∃ k s',i<=k/\k<i+n/\step k s'=.inl x
 |0,_,_,_,h=>by cases h
 |n+1,i,s,x,h=>by
  rw[an]at h;cases hs:step i s with
  |inl y=>
   rw[hs]at h;simp only[Sum.inl.injEq]at h;subst h;exact⟨i,s,by omega,by omega,hs⟩
  |inr s'=>
   rw[hs]at h;obtain⟨k,s2,h1,h2,h3⟩:=Ia n (i+1) s' h;exact⟨k,s2,by omega,by omega,h3⟩
theorem Gm {α:Type}{P Q:α->Bool}:∀ {l:List α},(∀ x∈l,Q x=true->P x=true)->(∃ y∈l,P y=true/\Q y=false)->(l.filter Q).length< (l.filter P).length
 | [],_,⟨y,hy,_⟩ =>by cases hy
 |x::l,h,⟨y,hy,h1,h2⟩ =>by
  have le:∀ l:List α,(∀ x∈l,Q x=true->P x=true)->(l.filter Q).length<=(l.filter P).length:=fun l=>by
   induction l with
   |nil=>intro _;exact Nat.le_refl _
   |cons a l ih=>
    intro hl;have i:=ih fun x hx=>hl x (by simp[hx]);have ha:=hl a (by simp);by_cases q:Q a=true
    ·rw[List.filter_cons_of_pos q,List.filter_cons_of_pos (ha q)];simp only[List.length_cons];omega
    ·rw[List.filter_cons_of_neg q];by_cases p:P a=true
     ·rw[List.filter_cons_of_pos p];simp only[List.length_cons];omega
     ·rw[List.filter_cons_of_neg p];exact i
  have hl:∀ z∈l,Q z=true->P z=true:=fun z hz=>h z (by simp[hz]);rcases List.mem_cons.1 hy with rfl|hy
  ·rw[List.filter_cons_of_pos h1,List.filter_cons_of_neg (by rw[h2];simp)];have:=le l hl;simp only[List.length_cons];omega
  ·have i:=Gm hl ⟨y,hy,h1,h2⟩;by_cases q:Q x=true
   ·rw[List.filter_cons_of_pos q,List.filter_cons_of_pos (h x (by simp) q)];simp only[List.length_cons];omega
   ·rw[List.filter_cons_of_neg q];by_cases p:P x=true
    ·rw[List.filter_cons_of_pos p];simp only[List.length_cons];omega
    ·rw[List.filter_cons_of_neg p];exact i
theorem Ib (p:Plea):ix p:=fun _ s0 _=>by
 refine JX (fun s=>(p.clauses.filter fun c=>!dS .int .bool s c.then_).length) (fun k s s' hs=>?_) _ _ _ (by have:=List.length_filter_le (fun c:Clause=>!dS .int .bool s0 c.then_) p.clauses;omega);unfold oK at hs;cases hr:an (oJ p s) p.clauses.length 0 ()with
 |inr u=>rw[hr]at hs;cases hs
 |inl x=>
  rw[hr]at hs;simp only[Sum.inr.injEq]at hs;subst hs;obtain⟨k2,_,_,h2,h3⟩:=Ia _ _ _ hr;unfold oJ at h3;cases hc:(((p.clauses.getD k2 (default:Clause)).strict&&(!(dS .int .bool s ((p.clauses.getD k2 (default:Clause)).then_))))&&(!(fL ((p.clauses.getD k2 (default:Clause)).if_) s)))with
  |false=>rw[hc]at h3;cases h3
  |true=>
   rw[hc]at h3;simp only[cond_true,Sum.inl.injEq]at h3;subst h3;rw[Bool.and_eq_true,Bool.and_eq_true]at hc;have hk:k2<p.clauses.length:=by omega
   refine Gm (fun c _ h=>?_) ⟨p.clauses.getD k2 default,?_,hc.1.2,?_⟩
   ·rw[xC]at h;split at h
    ·cases h
    ·exact h
   ·rw[List.getD_eq_getElem?_getD,List.getElem?_eq_getElem hk];exact List.getElem_mem hk
   ·rw[xC,if_pos rfl];rfl
theorem Ic (l:List Int):ji l:=fun hl=>j7 _ _ _ fun j _ _ hj _ h0=>by
 have h0:=of_decide_eq_true h0;unfold aD at hl;rw[fE (by omega) (by omega)];omega
theorem Id (p:Plea):iX p:=fun _ _=>⟨Ic _,fun _=>⟨j7 _ _ _ fun j _ _ _ _=>Ic _,fun _ _ _=>⟨Ib p,Px⟩⟩⟩
theorem Sh:aA.length=64:=by kernel_rfl
theorem JY (facts:List Int)(clauses:List Clause)(st:List (Int×Bool))(s0:List (Int×Int)×List Reason):∀ (L:List Int) (s:List Reason),s.length+L.length<=1000->(∀ x∈s,x.literal∈aA/\dS .int .int s0.1 x.literal=0)->(∀ q∈L,q∈aA)->
  okL (aP facts clauses st s0) (c5 facts clauses st s0) L s/\∃ s1,jO (aP facts clauses st s0) L s=.inr s1/\s1.length<=s.length+L.length/\∀ x∈s1,x.literal∈aA/\dS .int .int s0.1 x.literal=0
 | [],s,_,hs,_=>⟨trivial,s,rfl,by simp,hs⟩
 |q::L,s,hn,hs,hL=>by
  simp only[List.length_cons]at hn;have hq:=hL q (by simp);have hb:∀ x:Reason,(s++[x]).length*24<=c6:=fun x=>by
   simp only[List.length_append,List.length_singleton];unfold c6;omega
  have hp:c5 facts clauses st s0 q s:=fun _=>⟨fun _=>hb _,fun _=>⟨fun _=>hb _,fun _ _=>hb _⟩⟩;have key:aP facts clauses st s0 q s=.inr s\/∃ x:Reason,x.literal=q/\dS .int .int s0.1 q=0/\aP facts clauses st s0 q s=.inr (s++[x]):=by
   unfold aP;cases h1:(dS .int .int s0.1 q) !=0 with
   |true=>exact .inl rfl
   |false=>
    have h1:dS .int .int s0.1 q=0:=by simpa using h1
    simp only[cond_false];cases dS .int .bool st q with
    |true=>exact .inr ⟨_,rfl,h1,rfl⟩
    |false=>
     simp only[cond_false];cases jn ({ plea:=({ facts:=facts,clauses:=clauses}:Plea),strict:=st,known:=s0.1}:PleasCourt) q with
     |true=>exact .inr ⟨_,rfl,h1,rfl⟩
     |false=>
      simp only[cond_false];cases iL ({ plea:=({ facts:=facts,clauses:=clauses}:Plea),strict:=st,known:=s0.1}:PleasCourt) q with
      |true=>exact .inr ⟨_,rfl,h1,rfl⟩
      |false=>exact .inl rfl
  rcases key with e| ⟨x,e1,e2,e⟩
  ·obtain⟨i1,s1,i2,i3,i4⟩:=JY facts clauses st s0 L s (by omega) hs fun z hz=>hL z (by simp[hz]);refine⟨⟨hp,fun s' h=>by rw[e]at h;simp only[Sum.inr.injEq]at h;subst h;exact i1⟩,s1,by simp only[jO,e];exact i2,by simp only[List.length_cons];omega,i4⟩
  ·obtain⟨i1,s1,i2,i3,i4⟩:=JY facts clauses st s0 L (s++[x]) (by simp only[List.length_append,List.length_singleton];omega) (fun z hz=>by
    rcases List.mem_append.1 hz with hz|hz
    ·exact hs z hz
    ·rw[List.mem_singleton.1 hz,e1];exact⟨hq,e2⟩) fun z hz=>hL z (by simp[hz])
   refine⟨⟨hp,fun s' h=>by rw[e]at h;simp only[Sum.inr.injEq]at h;subst h;exact i1⟩,s1,by simp only[jO,e];exact i2,?_,i4⟩;simp only[List.length_append,List.length_cons,List.length_nil]at i3 |-;omega
theorem Py (x:Reason)(facts:List Int)(clauses:List Clause)(st:List (Int×Bool))(k:List (Int×Int))(q:Int):(q=x.literal->(dS .int .int (e_ x facts clauses st k) q:Int)≠0)/\((dS .int .int k q:Int)≠0->(dS .int .int (e_ x facts clauses st k) q:Int)≠0):=by
 have hu:∀ (m:List (Int×Int)) (v:Int),(dS .int .int (lF .int .int m x.literal v) q:Int)=if q=x.literal then v else dS .int .int m q:=fun m v=>xC (kk:=.int) (vk:=.int) m x.literal q v;unfold e_;cases x.proved with
 |true=>
  simp only[cond_true];rw[hu,hu];exact⟨fun h=>by rw[if_pos h];decide,fun h=>by split;decide;exact h⟩
 |false=>
  simp only[cond_false];rw[hu];exact⟨fun h=>by rw[if_pos h];decide,fun h=>by split;decide;exact h⟩
theorem JZ (facts:List Int)(clauses:List Clause)(st:List (Int×Bool))(s1:List Reason):∀ (R A:List Reason) (k:List (Int×Int)),s1=A++R->∃ k',an (ij facts clauses st s1) R.length A.length k=.inr k'/\∀ q:Int,((∃ x∈R,q=x.literal)\/(dS .int .int k q:Int)≠0)->(dS .int .int k' q:Int)≠0
 | [],A,k,_=>⟨k,rfl,fun q h=>by
  rcases h with⟨x,hx,_⟩ |h
  ·cases hx
  ·exact h⟩
 |y::R,A,k,h=>by
  have g:s1.getD A.length default=y:=by rw[h];exact fK A y default R rfl
  obtain⟨k',h1,h2⟩:=JZ facts clauses st s1 R (A++[y]) (e_ y facts clauses st k) (by rw[h];simp);rw[List.length_append,List.length_singleton]at h1;refine⟨k',by simp only[List.length_cons,an,ij,g];exact h1,fun q hq=>h2 q ?_⟩;obtain⟨l1,l2⟩:=Py y facts clauses st k q;rcases hq with⟨x,hx,e⟩ |hq
  ·rcases List.mem_cons.1 hx with rfl|hx
   ·exact .inr (l1 e)
   ·exact .inl ⟨x,hx,e⟩
  ·exact .inr (l2 hq)
theorem Pz (facts:List Int)(clauses:List Clause)(st:List (Int×Bool)):eo facts clauses st []:=by
 have hll:=Sh;have D:=fun s0=>JY facts clauses st s0 aA [] (by simp only[List.length_nil];omega) (fun x hx=>by cases hx) fun q hq=>hq;refine⟨vO (fun k s=>s.2.length<=64*k) _ _ _ (by simp) fun k s _ hk hs=>⟨?_,fun s' e=>?_⟩,JX (fun s=>(aA.filter fun q=>(dS .int .int s.1 q:Int) ==0).length) (fun k s s' e=>?_) _ _ _ (Nat.lt_of_le_of_lt (List.length_filter_le _ _) (by omega))⟩
 ·obtain⟨d1,s1,d2,d3,d4⟩:=D s;refine⟨Px,d1,fun s1' h1 _ _ _ s2 _=>?_⟩;rw[d2]at h1;simp only[Sum.inr.injEq]at h1;subst h1;simp only[List.length_nil]at d3;rw[List.length_append];unfold c6;omega
 ·obtain⟨d1,s1,d2,d3,d4⟩:=D s;unfold fR at e;rw[d2]at e;simp only at e;cases hz:(s1.length:Int) ==0 with
  |true=>rw[hz]at e;cases e
  |false=>
   rw[hz]at e;simp only[cond_false]at e;obtain⟨k',h1,h2⟩:=JZ facts clauses st s1 s1 [] s.1 rfl;rw[List.length_nil]at h1;rw[h1]at e;simp only[Sum.inr.injEq]at e;subst e;simp only[List.length_nil]at d3;simp only[List.length_append];omega
 ·obtain⟨d1,s1,d2,d3,d4⟩:=D s;unfold fR at e;rw[d2]at e;simp only at e;cases hz:(s1.length:Int) ==0 with
  |true=>rw[hz]at e;cases e
  |false=>
   rw[hz]at e;simp only[cond_false]at e;obtain⟨k',h1,h2⟩:=JZ facts clauses st s1 s1 [] s.1 rfl;rw[List.length_nil]at h1;rw[h1]at e;simp only[Sum.inr.injEq]at e;subst e;have hne:s1≠[]:=fun h=>by rw[h]at hz;cases hz
   obtain⟨x,R,rfl⟩:=List.exists_cons_of_ne_nil hne;refine Gm (fun q _ h=>?_) ⟨x.literal,(d4 x (by simp)).1,?_,?_⟩
   ·rw[beq_iff_eq]at h |-;exact Decidable.byContradiction fun hq=>h2 q (.inr hq) h
   ·rw[beq_iff_eq];exact(d4 x (by simp)).2
   ·have:=h2 x.literal (.inl ⟨x,by simp,rfl⟩);simpa using this
theorem Ie (p:Plea)(q:Int):iz p q:=⟨Id p,fun _ _=>⟨Ib p,Pz _ _ _⟩⟩
abbrev ub (l:List Case):Prop:=l.Pairwise fun x y=>¬ClashC x y
theorem If (b:Cases):jh b/\((bo b).2.2.2=0↔Rd b)/\(Rd b->((bo b).2.2.1=false↔ub b.cases)):=by
 obtain⟨r1,r2,r3⟩:=BM b;by_cases hR:Rd b
 ·obtain⟨a,c,ha,hc,e⟩:=r3 hR;have e0:=r2.2 hR;have h32:=hR.s;have h64:=hR.c;have hcs:((av b).1).cases=b.cases.map (dec b.sides.length):=by rw[e]
  have hlen:(b.cases.map (dec b.sides.length)).length=b.cases.length:=List.length_map ..;have each_run:∀ (c0:PrecedentsCourt) (n k:Nat) (s:List (Int×PrecedentsDecided)),an (dR c0) n k s=.inr (s++(List.range' k n).map fun(i:Nat) =>((i:Int),c0.cases.getD i default)):=fun c0 n=>by
   induction n with
   |zero=>intro k s;simp[an]
   |succ n ih=>
    intro k s;simp only[an,dR];rw[ih,List.range'_succ];simp
  have hE:a7 (av b).1=(List.range' 0 b.cases.length).map fun(i:Nat) =>((i:Int),(b.cases.map (dec b.sides.length)).getD i default):=by
   unfold a7;rw[each_run,hcs,hlen];rfl
  have hget:∀ i (h:i<b.cases.length),(b.cases.map (dec b.sides.length)).getD i default=dec b.sides.length b.cases[i]:=fun i h=>by
   rw[List.getD_eq_getElem?_getD,List.getElem?_eq_getElem (by rw[hlen];exact h)];simp
  have F:=fun(i:Nat) (h:i<b.cases.length) =>AE (l:=b.cases.map (dec b.sides.length)) (by omega) (P:=fun y=>aW (dec b.sides.length b.cases[i]) y)
   (step:=bO (b.cases.map (dec b.sides.length)) (dec b.sides.length b.cases[i])) (p:=cw (b.cases.map (dec b.sides.length)) (dec b.sides.length b.cases[i])) (fun k s=>rfl)
   (fun k s hs _ hlt=>⟨by omega,of_decide_eq_true hlt⟩) ((b.cases.map (dec b.sides.length)).length+1) 0 (i+1) (by omega) (by omega)
  have Fp:∀ i (h:i<b.cases.length),da (b.cases.map (dec b.sides.length)) ((i+1:Nat):Int) (dec b.sides.length b.cases[i]):=fun i h=>⟨(F i h).1,fun z hz=>by
   rcases(F i h).2 with⟨j,e1,_⟩ | ⟨e1,_⟩ <;>(rw[e1]at hz;cases hz)⟩
  have Fv:∀ i (h:i<b.cases.length),(bB (b.cases.map (dec b.sides.length)) ((i+1:Nat):Int) (dec b.sides.length b.cases[i])).2=((b.cases.map (dec b.sides.length)).drop (i+1)).any fun y=>aW (dec b.sides.length b.cases[i]) y:=fun i h=>by
   unfold bB;rcases(F i h).2 with⟨j,e1,e2⟩ | ⟨e1,e2⟩ <;>rw[e1,e2]
  have hmem:∀ z∈a7 (av b).1,∃ i,∃ h:i<b.cases.length,z=((i:Int),dec b.sides.length b.cases[i]):=fun z hz=>by
   rw[hE]at hz;obtain⟨i,hi,rfl⟩:=List.mem_map.1 hz;have hi:i<b.cases.length:=by have:=List.mem_range'_1.1 hi;omega
   exact⟨i,hi,by rw[hget i hi]⟩
  have hw:∀ i,i<b.cases.length->i64.wrap ((i:Int)+1)=((i+1:Nat):Int):=fun i h=>by
   rw[fE (by omega) (by omega)];omega
  have hstep:∀ i (h:i<b.cases.length),(∃ y,bU b ((i:Int),dec b.sides.length b.cases[i]) ()=.inl y/\(((b.cases.map (dec b.sides.length)).drop (i+1)).any fun y=>aW (dec b.sides.length b.cases[i]) y)=true)\/(bU b ((i:Int),dec b.sides.length b.cases[i]) ()=.inr ()/\(((b.cases.map (dec b.sides.length)).drop (i+1)).any fun y=>aW (dec b.sides.length b.cases[i]) y)=false):=fun i h=>by
   unfold bU;rw[hcs];simp only[hw i h,Fv i h];cases((b.cases.map (dec b.sides.length)).drop (i+1)).any fun y=>aW (dec b.sides.length b.cases[i]) y with
   |true=>exact .inl ⟨_,rfl,rfl⟩
   |false=>exact .inr ⟨rfl,rfl⟩
  have hrun:∀ L:List (Int×PrecedentsDecided),(∀ z∈L,z∈a7 (av b).1)->((∃ y,jO (bU b) L ()=.inl y)/\∃ z∈L,∀ i (h:i<b.cases.length),z=((i:Int),dec b.sides.length b.cases[i])->(((b.cases.map (dec b.sides.length)).drop (i+1)).any fun y=>aW (dec b.sides.length b.cases[i]) y)=true)\/(jO (bU b) L ()=.inr ()/\∀ z∈L,∀ i (h:i<b.cases.length),z=((i:Int),dec b.sides.length b.cases[i])->(((b.cases.map (dec b.sides.length)).drop (i+1)).any fun y=>aW (dec b.sides.length b.cases[i]) y)=false):=fun L=>by
   induction L with
   |nil=>intro _;exact .inr ⟨rfl,fun z hz=>by cases hz⟩
   |cons z L ih=>
    intro hL;obtain⟨i,hi,rfl⟩:=hmem z (hL _ (by simp));have same:∀ j (h:j<b.cases.length),(((i:Int),dec b.sides.length b.cases[i]):Int×PrecedentsDecided)=((j:Int),dec b.sides.length b.cases[j])->i=j:=fun j h q=>by
     have:=congrArg Prod.fst q;simp only at this;omega
    rcases hstep i hi with⟨y,e1,e2⟩ | ⟨e1,e2⟩
    ·refine .inl ⟨⟨y,by simp only[jO,e1]⟩,((i:Int),dec b.sides.length b.cases[i]),by simp,fun j h q=>?_⟩;have:=same j h q;subst this;exact e2
    ·rcases ih fun z hz=>hL z (by simp[hz])with⟨⟨y,k1⟩,z,hz,k2⟩ | ⟨k1,k2⟩
     ·exact .inl ⟨⟨y,by simp only[jO,e1];exact k1⟩,z,by simp[hz],k2⟩
     ·refine .inr ⟨by simp only[jO,e1];exact k1,fun z hz j h q=>?_⟩;rcases List.mem_cons.1 hz with rfl|hz
      ·have:=same j h q;subst this;exact e2
      ·exact k2 z hz j h q
  have hmem2:∀ i (h:i<b.cases.length),(((i:Int),dec b.sides.length b.cases[i]):Int×PrecedentsDecided)∈a7 (av b).1:=fun i h=>by
   rw[hE];exact List.mem_map.2 ⟨i,List.mem_range'_1.2 ⟨Nat.zero_le _,by omega⟩,by rw[hget i h]⟩
  have any_iff:∀ i (h:i<b.cases.length),(((b.cases.map (dec b.sides.length)).drop (i+1)).any fun y=>aW (dec b.sides.length b.cases[i]) y)=false↔∀ j (hj:j<b.cases.length),i<j->¬ClashC b.cases[i] b.cases[j]:=fun i h=>by
   have ci:=iU hR.cs _ (List.getElem_mem h);rw[<-List.map_drop,List.any_eq_false];constructor
   ·intro q j hj hij;have hm:b.cases[j]∈b.cases.drop (i+1):=by
     rw[List.mem_drop_iff_getElem];exact⟨j - (i+1),by omega,by congr 1;omega⟩
    have:=q _ (List.mem_map_of_mem hm);exact fun hc=>this ((EZ h32 ci (iU hR.cs _ (List.getElem_mem hj))).2 hc)
   ·intro q z hz;obtain⟨y,hy,rfl⟩:=List.mem_map.1 hz;rw[List.mem_drop_iff_getElem]at hy;obtain⟨j,hj,rfl⟩:=hy;intro hc;exact q (i+1+j) (by omega) (by omega) ((EZ h32 ci (iU hR.cs _ (List.getElem_mem _))).1 hc)
  refine⟨⟨r1,fun _=>⟨fun hml=>?_,?_⟩⟩,⟨fun _=>hR,fun _=>?_⟩,fun _=>?_⟩
  ·
   refine⟨vO (fun k s=>s.length=k) _ _ _ rfl fun k s _ hk hs=>⟨?_,fun s' q=>?_⟩,fun s0 h0=>?_⟩
   ·unfold f5;have hk:k<b.cases.length:=by rw[hcs,hlen]at hk;omega
    rw[hE,hs,List.getElem?_map,List.getElem?_map,List.getElem?_range' (by omega)];simp only[Option.map_some,Nat.zero_add,Nat.one_mul];rw[hcs]
   ·unfold dR at q;simp only[Sum.inr.injEq]at q;subst q;simp[hs]
   ·rw[List.length_map];unfold a7;rw[h0]
  ·have:∀ L:List (Int×PrecedentsDecided),(∀ z∈L,z∈a7 (av b).1)->okL (bU b) (fP b) L ():=fun L hL=>FY L () fun z hz s=>by
    obtain⟨i,hi,rfl⟩:=hmem z (hL z hz);unfold fP;rw[hcs];simp only[hw i hi];exact Fp i hi
   exact this _ fun z hz=>hz
  ·unfold bo;rw[e0];simp only[bne_self_eq_false,cond_false];rcases hrun _ fun z hz=>hz with⟨⟨y,k1⟩,_⟩ | ⟨k1,_⟩ <;>rw[k1]
  ·unfold bo;rw[e0];simp only[bne_self_eq_false,cond_false];unfold ub;rw[List.pairwise_iff_getElem];rcases hrun _ fun z hz=>hz with⟨⟨y,k1⟩,z,hz,k2⟩ | ⟨k1,k2⟩
   ·rw[k1];refine⟨(fun h=>by cases h),fun h=>?_⟩;obtain⟨i,hi,rfl⟩:=hmem z hz;have:=k2 i hi rfl;rw[(any_iff i hi).2 fun j hj hij=>h i j hi hj hij]at this;cases this
   ·rw[k1];exact⟨fun _ i j hi hj hij=>(any_iff i hi).1 (k2 _ (hmem2 i hi) i hi rfl) j hj hij,fun _=>rfl⟩
 ·have e0:((av b).2 !=0)=true:=by
   rw[bne_iff_ne];exact fun h=>hR (r2.1 h)
  refine⟨⟨r1,fun h=>by rw[e0]at h;cases h⟩,⟨fun h=>?_,fun h=>absurd h hR⟩,fun h=>absurd h hR⟩;unfold bo at h;rw[e0]at h;exact absurd (r2.1 h) hR
theorem MK {α:Type}(l:List α)(d:α)(P:α->Bool){step:Nat->List α->Empty⊕List α}(h:∀ k s,step k s=bif P (l.getD k d)then .inr (s++[l.getD k d])else .inr s):an step l.length 0 []=.inr (l.filter P):=by
 have key:∀ (R A:List α) (s:List α),l=A++R->an step R.length A.length s=.inr (s++R.filter P):=fun R=>by
  induction R with
  |nil=>intro A s _;simp[an]
  |cons y R ih=>
   intro A s hl;have g:l.getD A.length d=y:=by rw[hl];exact fK A y d R rfl
   have hl':l=(A++[y])++R:=by rw[hl];simp
   have ih:=fun s=>ih (A++[y]) s hl';rw[List.length_append,List.length_singleton]at ih;simp only[List.length_cons,an,h,g];cases hc:P y with
   |true=>
    simp only[cond_true];rw[ih,List.filter_cons_of_pos hc];simp
   |false=>
    simp only[cond_false];rw[ih,List.filter_cons_of_neg (by rw[hc];simp)]
 exact key l [] [] rfl
theorem Si {α:Type}(l:List α)(d:α)(P:α->Bool){step:Nat->List α->Empty⊕List α}{p:Nat->List α->Prop}(h:∀ k s,step k s=bif P (l.getD k d)then .inr (s++[l.getD k d])else .inr s)(hp:∀ k s,k<l.length->s.length<=k->p k s):okI step p l.length 0 []:=by
 refine vO (fun k s=>s.length<=k) _ _ _ (by simp) fun k s _ hk hs=>⟨hp k s (by omega) hs,fun s' e=>?_⟩;rw[h]at e;cases hc:P (l.getD k d) <;>rw[hc]at e <;>simp only[cond_true,cond_false,Sum.inr.injEq]at e <;>subst e
 ·omega
 ·simp;omega
theorem Lo:∀ {l:List Int} {lo hi:Int},l.Pairwise (· < ·)->(∀ x∈l,lo<=x/\x<hi)->l.length<=(hi - lo).toNat
 | [],_,_,_,_=>Nat.zero_le _
 |x::l,lo,hi,h,hr=>by
  have hp:=List.pairwise_cons.1 h;have hx:=hr x (by simp);have:=Lo (lo:=x+1) (hi:=hi) hp.2 fun y hy=>⟨by have:=hp.1 y hy;omega,(hr y (by simp[hy])).2⟩;simp only[List.length_cons];omega
theorem OfOk.len {l:List Int}{m:Nat}(h:OfOk l m):l.length<=m:=by
 have:=Lo (lo:=0) (hi:=(m:Int)) h.inc h.rg;omega
def Gn (b:Cases)(s:Suit):Int:=bif(!(aj b s.facts 0).2.1)&&((aj b s.facts 1).2.1||((bM s.plea s.question).1 !=1))then 1 else 0
def zM (b:Cases)(s:Suit):Case:= { no:=s.no,hour:=s.hour,winner:=Gn b s,facts:=s.facts,reason:=s.facts.filter fun k=>b.sides.getD (Int.toNat k) 0==Gn b s}
structure DecS (b:Cases)(s:Suit):Prop where
 rd:Rd b
 f:OfOk s.facts b.sides.length
 a:(bM s.plea s.question).2=0
 no:0<=s.no/\s.no<=1048576
 hr:0<=s.hour/\s.hour<=4096
 last:0<b.cases.length->(b.cases.getD (b.cases.length - 1) default).no<s.no/\(b.cases.getD (b.cases.length - 1) default).hour<=s.hour
theorem ML (b:Cases)(s:Suit):jp b s/\((bv b s).2=0->DecS b s/\(bv b s).1=zM b s):=by
 have hB0:=u6 b s.facts (side:=0) (.inl rfl);have hB1:=u6 b s.facts (side:=1) (.inr rfl);have hr:=BM b;have in_iff2:∀ n lo hi:Int,aG n lo hi=true↔lo<=n/\n<=hi:=fun n lo hi=>by rw[OZ];simp
 have loops:Rd b->OfOk s.facts b.sides.length->∀ w:Int,(∀ (step:Nat->List Int->Empty⊕List Int),(∀ k s',step k s'=bif(b.sides.getD (Int.toNat (s.facts.getD k 0)) 0==w)then .inr (s'++[s.facts.getD k 0])else .inr s')->an step s.facts.length 0 []=.inr (s.facts.filter fun k=>b.sides.getD (Int.toNat k) 0==w))/\
   ∀ (step:Nat->List Int->Empty⊕List Int) (p:Nat->List Int->Prop),(∀ k s',step k s'=bif(b.sides.getD (Int.toNat (s.facts.getD k 0)) 0==w)then .inr (s'++[s.facts.getD k 0])else .inr s')->(∀ k s',p k s'↔((0<=s.facts.getD k 0/\s.facts.getD k 0< (b.sides.length:Int))/\((b.sides.getD (Int.toNat (s.facts.getD k 0)) 0==w)=true->(s'++[s.facts.getD k 0]).length*8<=c6)))->okI step p s.facts.length 0 []:=fun hR hF w=>by
  refine⟨fun step h=>MK s.facts 0 (fun k=>b.sides.getD (Int.toNat k) 0==w) h,fun step p h hp=>Si s.facts 0 (fun k=>b.sides.getD (Int.toNat k) 0==w) h fun k s' hk hs=>(hp k s').2 ⟨?_,fun _=>?_⟩⟩
  ·rw[List.getD_eq_getElem?_getD,List.getElem?_eq_getElem hk];exact hF.rg _ (List.getElem_mem hk)
  ·have:=hF.len;have:=hR.s;simp only[List.length_append,List.length_singleton];unfold c6;omega
 refine⟨⟨hr.1,fun _=>⟨Id _,fun _=>⟨Ie _ _,fun _=>⟨hB0.1,fun h4=>⟨hB1.1,fun _ hml=>?_⟩⟩⟩⟩⟩,?_⟩
 ·rw[AC,beq_iff_eq]at h4;obtain⟨hR,hF⟩:=hB0.2.1.1 h4;have hc:=hR.c;have hw:0<b.cases.length->0<=i64.wrap ((b.cases.length:Int) - 1)/\i64.wrap ((b.cases.length:Int) - 1) < (b.cases.length:Int):=fun h=>by
   rw[fE (by omega) (by omega)];omega
  refine⟨fun h=>?_,fun h=>?_⟩
  ·have h:=of_decide_eq_true h;exact⟨hw (by omega),fun _=>hw (by omega),fun _=>⟨fun _ _=>(loops hR hF 1).2 _ _ (fun _ _=>rfl) fun _ _=>Iff.rfl,fun _ _=>(loops hR hF 0).2 _ _ (fun _ _=>rfl) fun _ _=>Iff.rfl⟩⟩
  ·exact⟨fun _ _=>(loops hR hF 1).2 _ _ (fun _ _=>rfl) fun _ _=>Iff.rfl,fun _ _=>(loops hR hF 0).2 _ _ (fun _ _=>rfl) fun _ _=>Iff.rfl⟩
 ·unfold bv;simp only[AC];cases h1:dN b !=0 with
  |true=>
   simp only[cond_true];intro h;rw[h]at h1;cases h1
  |false=>
   simp only[cond_false];cases h2:iW s.plea !=0 with
   |true=>
    simp only[cond_true];intro h;rw[h]at h2;cases h2
   |false=>
    simp only[cond_false];cases h3:(bM s.plea s.question).2==0 with
    |false=>
     simp only[cond_false];intro h;rw[h]at h3;cases h3
    |true=>
     simp only[cond_true];cases h4:(aj b s.facts 0).2.2==0 with
     |false=>
      simp only[cond_false];intro h;rw[h]at h4;cases h4
     |true=>
      simp only[cond_true];cases h5:(aG s.no 0 1048576)&&(aG s.hour 0 4096)with
      |false=>
       simp only[cond_false];intro h;cases h
      |true=>
       simp only[cond_true];rw[beq_iff_eq]at h3 h4;rw[Bool.and_eq_true,in_iff2,in_iff2]at h5;obtain⟨hR,hF⟩:=hB0.2.1.1 h4;have hc:=hR.c;have L:=loops hR hF;have fin:∀ X Y:Case×Int,X=(({ no:=s.no,hour:=s.hour,winner:=1,facts:=s.facts,reason:=s.facts.filter fun k=>b.sides.getD (Int.toNat k) 0==1}:Case),0)->Y=(({ no:=s.no,hour:=s.hour,winner:=0,facts:=s.facts,reason:=s.facts.filter fun k=>b.sides.getD (Int.toNat k) 0==0}:Case),0)->(bif(!(aj b s.facts 0).2.1)&&((aj b s.facts 1).2.1||((bM s.plea s.question).1 !=1))then X else Y).1=zM b s:=fun X Y hX hY=>by
        subst hX;subst hY;unfold zM Gn;cases(!(aj b s.facts 0).2.1)&&((aj b s.facts 1).2.1||((bM s.plea s.question).1 !=1)) <;>rfl
       by_cases h6:0<b.cases.length
       ·have hw:Int.toNat (i64.wrap ((b.cases.length:Int) - 1))=b.cases.length - 1:=by rw[fE (by omega) (by omega)];omega
        rw[decide_eq_true (by omega:(b.cases.length:Int) > 0),hw];simp only[cond_true];cases h7:(decide (s.no > (b.cases.getD (b.cases.length - 1) default).no))&&(decide (s.hour>=(b.cases.getD (b.cases.length - 1) default).hour))with
        |false=>
         simp only[cond_false];intro h;cases h
        |true=>
         simp only[cond_true];rw[Bool.and_eq_true,decide_eq_true_eq,decide_eq_true_eq]at h7;intro _;refine⟨⟨hR,hF,h3,h5.1,h5.2,fun _=>⟨h7.1,h7.2⟩⟩,fin _ _ ?_ ?_⟩
         ·rw[(L 1).1 (ka b s) fun _ _=>rfl]
         ·rw[(L 0).1 (kc b s) fun _ _=>rfl]
       ·rw[decide_eq_false (by omega:¬ (b.cases.length:Int) > 0)];simp only[cond_false];intro _;refine⟨⟨hR,hF,h3,h5.1,h5.2,fun h=>absurd h h6⟩,fin _ _ ?_ ?_⟩
        ·rw[(L 1).1 (ke b s) fun _ _=>rfl]
        ·rw[(L 0).1 (kf b s) fun _ _=>rfl]
theorem ClashC.symm {x y:Case}(h:ClashC x y):ClashC y x:=⟨fun e=>h.1 e.symm,h.2.2,h.2.1⟩
theorem Ig {l:List Case}(h:ub l){x y:Case}(hx:x∈l)(hy:y∈l):¬ClashC x y:=fun hc=>by
 obtain⟨i,hi,rfl⟩:=List.getElem_of_mem hx;obtain⟨j,hj,rfl⟩:=List.getElem_of_mem hy;rcases Nat.lt_trichotomy i j with h1|h1|h1
 ·exact(List.pairwise_iff_getElem.1 h) i j hi hj h1 hc
 ·subst h1;exact hc.1 rfl
 ·exact(List.pairwise_iff_getElem.1 h) j i hj hi h1 hc.symm
theorem Ih {b:Cases}(hR:Rd b)(hn:ub b.cases){F:List Int}:¬ ((∃ x∈b.cases,Dp b.sides F 0 x)/\∃ y∈b.cases,Dp b.sides F 1 y):=by
 rintro⟨⟨x,hx,x1,x2,x3⟩,y,hy,y1,y2,y3⟩;have cx:=iU hR.cs x hx;have cy:=iU hR.cs y hy;refine Ig hn hx hy ⟨by omega,fun k hk=>?_,fun k hk=>?_⟩
 ·have:=(cx.sub k hk).2;exact y3 k (x2 k hk) (by omega)
 ·have:=(cy.sub k hk).2;exact x3 k (y2 k hk) (by omega)
theorem Gp (b:Cases)(s:Suit):Gn b s=0\/Gn b s=1:=by
 unfold Gn;cases(!(aj b s.facts 0).2.1)&&((aj b s.facts 1).2.1||((bM s.plea s.question).1 !=1)) <;>simp
theorem MM {b:Cases}{s:Suit}(d:DecS b s)(hn:ub b.cases):∀ y∈b.cases,¬ClashC y (zM b s):=fun y hy hc=>by
 have cy:=iU d.rd.cs y hy;have b0:=(u6 b s.facts (side:=0) (.inl rfl)).2.2 d.rd d.f;have b1:=(u6 b s.facts (side:=1) (.inr rfl)).2.2 d.rd d.f;have nb:=Ih d.rd hn (F:=s.facts);have hy2:Dp b.sides s.facts (1 - Gn b s) y:=by
  refine⟨?_,fun k hk=>hc.2.1 k hk,fun k hk h=>hc.2.2 k (List.mem_filter.2 ⟨hk,?_⟩)⟩
  ·have h1:y.winner≠Gn b s:=hc.1;rcases Gp b s with h|h <;>rcases cy.w with h2|h2 <;>omega
  ·rw[beq_iff_eq];omega
 have hw:Gn b s=bif(!(aj b s.facts 0).2.1)&&((aj b s.facts 1).2.1||((bM s.plea s.question).1 !=1))then 1 else 0:=rfl;rcases Gp b s with h|h
 ·rw[h]at hy2;have t:(aj b s.facts 1).2.1=true:=b1.2 ⟨y,hy,hy2⟩;cases o:(aj b s.facts 0).2.1 with
  |true=>exact nb ⟨b0.1 o,b1.1 t⟩
  |false=>
   rw[o,t,h]at hw;simp at hw
 ·rw[h]at hy2;have o:(aj b s.facts 0).2.1=true:=b0.2 ⟨y,hy,hy2⟩;rw[o,h]at hw;simp at hw
theorem PA {b:Cases}{s:Suit}(d:DecS b s):CaseOk b.sides (zM b s):=by
 refine⟨d.no,d.hr,Gp b s,d.f,⟨d.f.inc.sublist List.filter_sublist,fun x hx=>d.f.rg x (List.mem_filter.1 hx).1⟩,fun k hk=>?_⟩;have h:=List.mem_filter.1 hk;exact⟨h.1,beq_iff_eq.1 h.2⟩
theorem yh {sides:List Int}{c:Case}(hc:CaseOk sides c):∀ {l:List Case} {no hr:Int},qC sides no hr l->(l=[]->no<c.no/\hr<=c.hour)->(0<l.length->(l.getD (l.length - 1) default).no<c.no/\(l.getD (l.length - 1) default).hour<=c.hour)->qC sides no hr (l++[c])
 | [],no,hr,_,h1,_=>⟨(h1 rfl).1,(h1 rfl).2,hc,trivial⟩
 |x::R,no,hr,h,_,h2=>by
  refine⟨h.1,h.2.1,h.2.2.1,yh hc h.2.2.2 (fun e=>?_) fun hl=>?_⟩
  ·subst e;exact h2 (by simp)
  ·have:=h2 (by simp);have e:(x::R).getD ((x::R).length - 1) default=R.getD (R.length - 1) default:=by
    obtain⟨y,R',rfl⟩:=List.exists_cons_of_ne_nil (List.ne_nil_of_length_pos hl);simp
   rwa[e]at this
structure SitI (b:Cases)(A:List Suit)(cs:List Case):Prop where
 rd:Rd { sides:=b.sides,cases:=cs}
 len:cs.length=b.cases.length+A.length
 head:cs.take b.cases.length=b.cases
 dec:∀ i (h:i<A.length),DecS { sides:=b.sides,cases:=cs.take (b.cases.length+i)} A[i]/\cs.getD (b.cases.length+i) default=zM { sides:=b.sides,cases:=cs.take (b.cases.length+i)} A[i]
 nc:ub b.cases->ub cs
theorem Lp (b:Cases)(l:List Suit):∀ (R A:List Suit) (cs:List Case),l=A++R->SitI b A cs->
  okI (gm b.sides l) (fo b.sides l) R.length A.length cs/\((∃ x,an (gm b.sides l) R.length A.length cs=.inl x/\x≠0)\/∃ cs',an (gm b.sides l) R.length A.length cs=.inr cs'/\SitI b l cs')
 | [],A,cs,hl,i=>by
  rw[List.append_nil]at hl;subst hl;exact⟨trivial,.inr ⟨cs,rfl,i⟩⟩
 |s::R,A,cs,hl,i=>by
  have g:l.getD A.length default=s:=by rw[hl];exact fK A s default R rfl
  obtain⟨d1,d2⟩:=ML { sides:=b.sides,cases:=cs} s;have hc:=i.rd.c;have hc:cs.length<=64:=hc;have hp:fo b.sides l A.length cs:=by
   unfold fo;rw[g,Pu];refine⟨d1,fun _=>?_⟩;simp only[List.length_append,List.length_singleton];unfold c6;omega
  have hst:gm b.sides l A.length cs=bif((bv { sides:=b.sides,cases:=cs} s).2 !=0)then .inl (bv { sides:=b.sides,cases:=cs} s).2 else bif(decide (((cs++[(bv { sides:=b.sides,cases:=cs} s).1]).length:Int) > 64))then .inl 2 else .inr (cs++[(bv { sides:=b.sides,cases:=cs} s).1]):=by
   unfold gm;rw[g,ZT]
  cases h1:(bv { sides:=b.sides,cases:=cs} s).2 !=0 with
  |true=>
   rw[h1]at hst;simp only[cond_true]at hst;refine⟨⟨hp,fun s' e=>by rw[hst]at e;cases e⟩,.inl ⟨(bv { sides:=b.sides,cases:=cs} s).2,by simp only[List.length_cons,an,hst],by simpa using h1⟩⟩
  |false=>
   rw[h1]at hst;simp only[cond_false]at hst;obtain⟨D,e1⟩:=d2 (by simpa using h1);rw[e1]at hst;cases h2:decide (((cs++[zM { sides:=b.sides,cases:=cs} s]).length:Int) > 64)with
   |true=>
    rw[h2]at hst;simp only[cond_true]at hst;refine⟨⟨hp,fun s' e=>by rw[hst]at e;cases e⟩,.inl ⟨2,by simp only[List.length_cons,an,hst],by omega⟩⟩
   |false=>
    rw[h2]at hst;simp only[cond_false]at hst;have h2:=of_decide_eq_false h2;have hlen:=i.len;have hnew:SitI b (A++[s]) (cs++[zM { sides:=b.sides,cases:=cs} s]):=by
     refine⟨⟨i.rd.s,by show(cs++[_]).length<=64;omega,i.rd.sd,?_⟩,?_,?_,fun j hj=>?_,fun hn=>?_⟩
     ·refine yh (PA D) i.rd.cs (fun _=>?_) D.last;have:=D.no;have:=D.hr;exact⟨by show -1<s.no;omega,by show 0<=s.hour;omega⟩
     ·simp only[List.length_append,List.length_singleton];omega
     ·rw[List.take_append_of_le_length (by omega)];exact i.head
     ·simp only[List.length_append,List.length_singleton]at hj;rw[List.take_append_of_le_length (by omega)];by_cases hjA:j<A.length
      ·have:=i.dec j hjA;rw[List.getElem_append_left hjA];refine⟨this.1,?_⟩;rw[List.getD_eq_getElem?_getD,List.getElem?_append_left (by omega),<-List.getD_eq_getElem?_getD];exact this.2
      ·have hj2:j=A.length:=by omega
       subst hj2;have e2:cs.take (b.cases.length+A.length)=cs:=by rw[<-hlen,List.take_length]
       rw[List.getElem_append_right (Nat.le_refl _)];simp only[Nat.sub_self,List.getElem_cons_zero,e2];refine⟨D,?_⟩;rw[<-hlen];exact fK cs _ default [] rfl
     ·refine List.pairwise_append.2 ⟨i.nc hn,List.pairwise_singleton _ _,fun y hy z hz=>?_⟩;rw[List.mem_singleton.1 hz];exact MM D (i.nc hn) y hy
    obtain⟨r1,r2⟩:=Lp b l R (A++[s]) _ (by rw[hl];simp) hnew;rw[List.length_append,List.length_singleton]at r1 r2;refine⟨⟨hp,fun s' e=>by rw[hst]at e;simp only[Sum.inr.injEq]at e;subst e;exact r1⟩,?_⟩;simp only[List.length_cons,an,hst];exact r2
theorem Vt (b:Cases)(l:List Suit):g8 b l/\(((dF b l).2≠0/\(dF b l).1.cases=[])\/∃ cs,dF b l=({ sides:=b.sides,cases:=cs},0)/\SitI b l cs):=by
 obtain⟨r1,r2,_⟩:=BM b;have start:Rd b->SitI b [] b.cases:=fun hR=>⟨hR,by simp,List.take_length,fun i h=>absurd h (Nat.not_lt_zero _),fun h=>h⟩;by_cases hR:Rd b
 ·have e0:dN b=0:=r2.2 hR;obtain⟨s1,s2⟩:=Lp b l l [] b.cases rfl (start hR);rw[List.length_nil]at s1 s2;refine⟨⟨r1,fun _ _=>s1⟩,?_⟩;unfold dF;rw[e0];simp only[bne_self_eq_false,cond_false];rcases s2 with⟨x,e1,e2⟩ | ⟨cs,e1,e2⟩
  ·rw[e1];exact .inl ⟨e2,rfl⟩
  ·rw[e1];exact .inr ⟨cs,rfl,e2⟩
 ·have e0:(dN b !=0)=true:=by rw[bne_iff_ne];exact fun h=>hR (r2.1 h)
  refine⟨⟨r1,fun h=>by rw[e0]at h;cases h⟩,.inl ?_⟩;unfold dF;rw[e0];exact⟨fun h=>hR (r2.1 h),rfl⟩
def mD (x:Claim)(n:Int):Claim:= { right:=x.right,farm:=x.farm,hour:=x.hour,litres:=n,rank:=x.rank}
def bN (a b:Int):Int:=if a<b then a else b
theorem p_ {a b:Int}:bN a b<=a/\bN a b<=b/\(bN a b=a\/bN a b=b):=by unfold bN;split <;>omega
def oB (f:Int):Int->List Claim->List Claim
 |_,[] =>[]
 |n,x::r=>if x.farm=f then mD x (bN n x.litres)::oB f (n - bN n x.litres) r else x::oB f n r
abbrev Lit (l:List Claim):Prop:= ∀ y∈l,0<=y.litres/\y.litres<4611686018427387904
theorem AI (x:Judgement)(l0:List Claim):∀ (R A:List Claim) (n:Int) (k:Nat),A.length=k->0<=n->n<4611686018427387904->Lit R->
  okI (df x l0) (eY x l0) R.length k (A++R,n)/\∃ m,an (df x l0) R.length k (A++R,n)=.inr (A++oB x.farm n R,m)
 | [],A,n,k,hk,h0,h1,hR=>⟨trivial,n,by simp[an,oB]⟩
 |y::R,A,n,k,hk,h0,h1,hR=>by
  have hy:=hR y (by simp);have hR':Lit R:=fun z hz=>hR z (by simp[hz]);have e:(A++y::R).getD k default=y:=fK A y default R hk.symm;have e2:∀ z:Claim,(A++y::R).set k z=A++z::R:=fun z=>Pe A y z R hk.symm;have e3:∀ z:Claim,(A++z::R).getD k default=z:=fun z=>fK A z default R hk.symm;have hm:=p_ (a:=n) (b:=y.litres);have hlen:(k:Int) < ((A++y::R).length:Int):=by rw[List.length_append,List.length_cons];omega
  have hlen2:∀ z:Claim,(k:Int) < ((A++z::R).length:Int):=fun z=>by rw[List.length_append,List.length_cons];omega
  simp only[List.length_cons,okI,an,df,eY,e,e2,e3];by_cases hf:y.farm=x.farm
  ·rw[show(y.farm==x.farm)=true by simpa using hf];simp only[cond_true];have hw:i64.wrap (n - bN n y.litres)=n - bN n y.litres:=fE (by omega) (by omega);change _/\∃ m,an (df x l0) R.length (k+1) (A++mD y (bN n y.litres)::R,i64.wrap (n - bN n y.litres))=_;rw[hw];obtain⟨q1,m,q2⟩:=AI x l0 R (A++[mD y (bN n y.litres)]) (n - bN n y.litres) (k+1) (by simp[hk]) (by omega) (by omega) hR';rw[List.append_assoc,List.singleton_append]at q1 q2;refine⟨⟨⟨⟨by omega,hlen⟩,fun _=>⟨⟨by omega,hlen⟩,⟨by omega,hlen⟩,by omega,hlen2 _⟩⟩,fun s' hs=>?_⟩,m,?_⟩
   ·cases hs;change okI _ _ R.length (k+1) (A++mD y (bN n y.litres)::R,i64.wrap (n - bN n y.litres));rw[hw];exact q1
   ·rw[q2,oB,if_pos hf];simp
  ·rw[show(y.farm==x.farm)=false by simpa using hf];simp only[cond_false];obtain⟨q1,m,q2⟩:=AI x l0 R (A++[y]) n (k+1) (by simp[hk]) h0 h1 hR';rw[List.append_assoc,List.singleton_append]at q1 q2;refine⟨⟨⟨⟨by omega,hlen⟩,fun h=>(by cases h)⟩,fun s' hs=>?_⟩,m,?_⟩
   ·cases hs;exact q1
   ·rw[q2,oB,if_neg hf];simp
theorem PB (x:Judgement)(l:List Claim)(h0:0<=x.n)(h1:x.n<4611686018427387904)(hl:Lit l):cG x l/\bY x l=oB x.farm x.n l:=by
 obtain⟨q1,m,q2⟩:=AI x l l [] x.n 0 rfl h0 h1 hl;rw[List.nil_append]at q1 q2;unfold cG bY;rw[q2];exact⟨fun _=>q1,rfl⟩
theorem zN (f:Int):∀ (l:List Claim) (n:Int),0<=n->Lit l->Lit (oB f n l)/\(oB f n l).length=l.length
 | [],n,h0,hl=>⟨(fun y hy=>by cases hy),rfl⟩
 |x::r,n,h0,hl=>by
  have hx:=hl x (by simp);have hm:=p_ (a:=n) (b:=x.litres);unfold oB;by_cases hf:x.farm=f
  ·rw[if_pos hf];obtain⟨q1,q2⟩:=zN f r (n - bN n x.litres) (by omega) fun z hz=>hl z (by simp[hz]);refine⟨fun y hy=>?_,by simp[q2]⟩;rcases List.mem_cons.1 hy with rfl|hy
   ·show 0<=bN n x.litres/\bN n x.litres<_;unfold bN;split <;>omega
   ·exact q1 y hy
  ·rw[if_neg hf];obtain⟨q1,q2⟩:=zN f r n h0 fun z hz=>hl z (by simp[hz]);refine⟨fun y hy=>?_,by simp[q2]⟩;rcases List.mem_cons.1 hy with rfl|hy
   ·exact hx
   ·exact q1 y hy
theorem zO (f:Int):∀ (l:List Claim) (n:Int),(oB f n l).map (fun x=>mD x 0)=l.map fun x=>mD x 0
 | [],n=>rfl
 |x::r,n=>by
  unfold oB;by_cases hf:x.farm=f
  ·rw[if_pos hf,List.map_cons,List.map_cons,zO f r];rfl
  ·rw[if_neg hf,List.map_cons,List.map_cons,zO f r]
theorem Ii {l m:List Claim}(e:m.map (fun x=>mD x 0)=l.map fun x=>mD x 0)(h:l.Pairwise tlt):m.Pairwise tlt:=by
 have h1:(l.map fun x=>mD x 0).Pairwise tlt:=List.pairwise_map.2 (h.imp fun {a b} h=>h);rw[<-e]at h1;exact(List.pairwise_map.1 h1).imp fun {a b} h=>h
theorem oC (l:List Claim)(f:Int):∀ (R A:List Claim) (n:Int) (acc:List Claim) (k:Nat),l=A++R->A.length=k->0<=n->n<4611686018427387904->Lit R->(acc.length+R.length)*40<=c6->
  okI (mV l f) (qx l f) R.length k (n,acc)/\∃ m,an (mV l f) R.length k (n,acc)=.inr (m,acc++(oB f n R).filter fun x=>!ap x)
 | [],A,n,acc,k,hl,hk,h0,h1,hR,hb=>⟨trivial,n,by simp[an,oB]⟩
 |y::R,A,n,acc,k,hl,hk,h0,h1,hR,hb=>by
  have hy:=hR y (by simp);have hR':Lit R:=fun z hz=>hR z (by simp[hz]);have e:l.getD k default=y:=by rw[hl];exact fK A y default R hk.symm
  have hm:=p_ (a:=n) (b:=y.litres);simp only[List.length_cons]at hb;have hbd:∀ z:Claim,(acc++[z]).length*40<=c6:=fun z=>by rw[List.length_append];simp only[List.length_cons,List.length_nil];omega
  have hbn:∀ z:Claim,((acc++[z]).length+R.length)*40<=c6:=fun z=>by rw[List.length_append];simp only[List.length_cons,List.length_nil];omega
  have hl':l=(A++[y])++R:=by rw[hl];simp
  have e4:(if n<y.litres then n else y.litres)=bN n y.litres:=rfl;simp only[List.length_cons,okI,an,mV,qx,e,e4];by_cases hf:y.farm=f
  ·rw[show(y.farm==f)=true by simpa using hf];simp only[cond_true];have hw:i64.wrap (n - bN n y.litres)=n - bN n y.litres:=fE (by omega) (by omega);rw[hw,oB,if_pos hf];by_cases hp:bN n y.litres > 0
   ·rw[decide_eq_true hp];simp only[cond_true];obtain⟨q1,m,q2⟩:=oC l f R (A++[y]) (n - bN n y.litres) (acc++[mD y (bN n y.litres)]) (k+1) hl' (by simp[hk]) (by omega) (by omega) hR' (hbn _);refine⟨⟨fun _=>⟨fun _ _=>hbd _,fun h=>(by cases h)⟩,fun s' hs=>?_⟩,m,?_⟩
    ·cases hs;exact q1
    ·rw[List.filter_cons_of_pos (by unfold ap mD;simp;omega)];refine Eq.trans q2 ?_;simp
   ·rw[decide_eq_false hp];simp only[cond_false];obtain⟨q1,m,q2⟩:=oC l f R (A++[y]) (n - bN n y.litres) acc (k+1) hl' (by simp[hk]) (by omega) (by omega) hR' (by omega);refine⟨⟨fun _=>⟨fun _ h=>(by cases h),fun h=>(by cases h)⟩,fun s' hs=>?_⟩,m,?_⟩
    ·cases hs;exact q1
    ·rw[List.filter_cons_of_neg (by unfold ap mD;simp;omega)];exact q2
  ·rw[show(y.farm==f)=false by simpa using hf];simp only[cond_false];rw[oB,if_neg hf];by_cases hp:y.litres > 0
   ·rw[decide_eq_true hp];simp only[cond_true];obtain⟨q1,m,q2⟩:=oC l f R (A++[y]) n (acc++[y]) (k+1) hl' (by simp[hk]) h0 h1 hR' (hbn _);refine⟨⟨fun _=>⟨fun h=>(by cases h),fun _ _=>hbd _⟩,fun s' hs=>?_⟩,m,?_⟩
    ·cases hs;exact q1
    ·rw[List.filter_cons_of_pos (by unfold ap;simp;omega)];refine Eq.trans q2 ?_;simp
   ·rw[decide_eq_false hp];simp only[cond_false];obtain⟨q1,m,q2⟩:=oC l f R (A++[y]) n acc (k+1) hl' (by simp[hk]) h0 h1 hR' (by omega);refine⟨⟨fun _=>⟨fun h=>(by cases h),fun _ h=>(by cases h)⟩,fun s' hs=>?_⟩,m,?_⟩
    ·cases hs;exact q1
    ·rw[List.filter_cons_of_neg (by unfold ap;simp;omega)];exact q2
theorem vg (x:Judgement)(l:List Claim)(h0:0<=x.n)(h1:x.n<4611686018427387904)(hl:Lit l)(hs:l.Pairwise tlt)(hb:l.length*40<=c6):
  (cG x l/\cJ (bY x l)/\uq l x.farm x.n)/\du (bY x l)=fI l x.farm x.n/\fI l x.farm x.n=(oB x.farm x.n l).filter fun y=>!ap y:=by
 obtain⟨q1,q2⟩:=PB x l h0 h1 hl;obtain⟨r1,m,r2⟩:=oC l x.farm l [] x.n [] 0 rfl rfl h0 h1 hl (by simpa using hb);have e:fI l x.farm x.n=(oB x.farm x.n l).filter fun y=>!ap y:=by
  unfold fI;rw[r2,List.nil_append]
 obtain⟨t1,t2⟩:=Gd (l:=oB x.farm x.n l) (by rw[(zN x.farm l x.n h0 hl).2];unfold c6 at hb;omega) (List.Perm.refl _) (List.Pairwise.filter _ (Ii (zO x.farm l x.n) hs));rw[q2,e];exact⟨⟨q1,t1,r1⟩,t2,rfl⟩
def rH (x:Claim):List Claim->List Claim
 | [] =>[x]
 |y::r=>if aK x y=true then x::y::r else mD x (x.litres+y.litres)::r
def ik (l:List Claim)(x:Claim):List Claim:=l.takeWhile (fun y=>aK y x)++rH x (l.dropWhile fun y=>aK y x)
theorem Lq (l:List Claim)(x:Claim)(hb:(l.length+1)*40<=c6):∀ (R A:List Claim) (k:Nat),l=A++R->
  okI (jE l x) (mU l x) (R.length+1) k (A,(A.length:Int))/\an (jE l x) (R.length+1) k (A,(A.length:Int))=.inl (((A++R.takeWhile fun y=>aK y x).length:Int),A++R.takeWhile fun y=>aK y x)
 | [],A,k,hl=>by
  have hA:l.length=A.length:=by rw[hl];simp
  have e:decide ((A.length:Int) < (l.length:Int))=false:=decide_eq_false (by omega);simp only[List.length_nil,okI,an,jE,mU,e,Bool.false_and,cond_false,List.takeWhile_nil,List.append_nil];exact⟨⟨fun _=>⟨fun h=>(by cases h),fun h=>(by cases h)⟩,fun s h=>(by cases h)⟩,by simp⟩
 |y::R,A,k,hl=>by
  have hA:l.length=A.length+(R.length+1):=by rw[hl];simp
  have e:decide ((A.length:Int) < (l.length:Int))=true:=decide_eq_true (by omega);have g:l.getD (Int.toNat (A.length:Int)) default=y:=by rw[hl,Int.toNat_natCast];exact fK A y default R rfl
  have hw:i64.wrap ((A.length:Int)+1)=((A++[y]).length:Int):=by
   rw[fE (by omega) (by unfold c6 at hb;omega)];simp
  have hl2:(A++[y]).length*40<=c6:=by rw[List.length_append];simp only[List.length_cons,List.length_nil];omega
  simp only[List.length_cons];rw[okI,an];simp only[jE,mU,e,g,Bool.true_and,hw];cases hB:aK y x with
  |false=>
   simp only[cond_false];rw[List.takeWhile_cons_of_neg (p:=fun y=>aK y x) (by rw[hB];simp),List.append_nil];exact⟨⟨fun _=>⟨fun _=>⟨by omega,by omega⟩,fun h=>(by cases h)⟩,fun s h=>(by cases h)⟩,by simp⟩
  |true=>
   simp only[cond_true];obtain⟨q1,q2⟩:=Lq l x hb R (A++[y]) (k+1) (by rw[hl];simp);rw[List.takeWhile_cons_of_pos (p:=fun y=>aK y x) hB];refine⟨⟨fun _=>⟨fun _=>⟨by omega,by omega⟩,fun _=>⟨⟨by omega,by omega⟩,hl2⟩⟩,fun s h=>?_⟩,?_⟩
   ·cases h;exact q1
   ·rw[q2];simp
theorem PC (l:List Claim)(x:Claim)(hb:(l.length+1)*40<=c6)(hx:0<=x.litres/\x.litres<4611686018427387904)(hl:Lit l):pb l x/\sF l x=ik l x:=by
 obtain⟨q1,q2⟩:=Lq l x hb l [] 0 rfl;simp only[List.length_nil,List.nil_append]at q1 q2;generalize hT:l.takeWhile (fun y=>aK y x)=T at q2;generalize hD:l.dropWhile (fun y=>aK y x)=D;have hTD:l=T++D:=by rw[<-hT,<-hD,List.takeWhile_append_dropWhile]
 have hlen:l.length=T.length+D.length:=by rw[hTD];simp
 have q2':an (jE l x) (l.length+1) 0 ([],0)=.inl ((T.length:Int),T):=q2;have q1':okI (jE l x) (mU l x) (l.length+1) 0 ([],0):=q1;have hbT:∀ (z:Claim) (m:List Claim),T.length+1+m.length<=l.length+1->((T++[z])++m).length*40<=c6:=fun z m h=>by simp only[List.length_append,List.length_cons,List.length_nil];omega
 unfold pb sF ik;rw[hT,hD,q2'];have t1:l.take l.length=l:=List.take_length;have d1:l.drop T.length=D:=by rw[hTD];simp
 have hLD:Lit D:=fun y hy=>hl y (by rw[hTD];simp[hy]);cases D with
 |nil=>
  simp only[List.length_nil]at hlen;have e0:decide ((T.length:Int) < (l.length:Int))=false:=decide_eq_false (by omega);refine⟨⟨q1',fun z h=>(by cases h),fun r hr=>?_⟩,?_⟩
  ·cases hr;simp only[e0,Bool.false_and,Int.toNat_natCast,t1,d1];refine fun _=>⟨fun h=>(by cases h),fun h=>(by cases h),fun _=>⟨?_,fun _=>⟨⟨by omega,by omega,Int.le_refl _⟩,hbT x [] (by simp only[List.length_nil];omega)⟩⟩⟩;have:=hbT x [] (by simp only[List.length_nil];omega)
   rwa[List.append_nil]at this
  ·simp only[e0,Bool.false_and,cond_false,Int.toNat_natCast,t1,d1,rH,List.append_nil]
 |cons y r=>
  simp only[List.length_cons]at hlen;have e1:decide ((T.length:Int) < (l.length:Int))=true:=decide_eq_true (by omega);have g:l.getD T.length default=y:=by rw[hTD];exact fK T y default r rfl
  have w1:i64.wrap ((T.length:Int)+1)=((T.length+1:Nat):Int):=by rw[fE (by omega) (by unfold c6 at hb;omega)];omega
  have d2:l.drop (T.length+1)=r:=by rw[<-List.drop_drop,d1];rfl
  have hy:=hLD y (by simp);have w2:i64.wrap (x.litres+y.litres)=x.litres+y.litres:=fE (by omega) (by omega);have b1:∀ z:Claim,(T++[z]).length*40<=c6:=fun z=>by
   have:=hbT z [] (by simp only[List.length_nil];omega)
   rwa[List.append_nil]at this
  refine⟨⟨q1',fun z h=>(by cases h),fun r' hr=>?_⟩,?_⟩
  ·cases hr;simp only[e1,g,Bool.true_and,w1,w2,Int.toNat_natCast,t1,d1,d2];exact fun _=>⟨fun _=>⟨by omega,by omega⟩,fun _=>⟨⟨by omega,by omega⟩,b1 _,fun _=>⟨⟨by omega,by omega,Int.le_refl _⟩,hbT _ r (by omega)⟩⟩,fun _=>⟨b1 _,fun _=>⟨⟨by omega,by omega,Int.le_refl _⟩,hbT _ (y::r) (by simp only[List.length_cons];omega)⟩⟩⟩
  ·simp only[e1,g,Bool.true_and,w1,w2,Int.toNat_natCast,t1,d1,d2,rH];cases hB:aK x y with
   |false=>
    simp only[Bool.not_false,cond_true,Bool.false_eq_true,if_false];rw[List.append_assoc,List.singleton_append];rfl
   |true=>
    simp only[Bool.not_true,cond_false,if_true];rw[List.append_assoc,List.singleton_append]
def D5 (a b:Claim):Prop:=a.rank=b.rank/\a.right=b.right/\a.farm=b.farm
def amt:List Claim->Int->Int->Int
 | [],_,_=>0
 |x::l,r,p=>(if x.right=r/\x.farm=p then x.litres else 0)+amt l r p
theorem BN:∀ (l m:List Claim) (r p:Int),amt (l++m) r p=amt l r p+amt m r p
 | [],m,r,p=>by simp[amt]
 |x::l,m,r,p=>by rw[List.cons_append,amt,amt,BN l m r p];omega
theorem qJ {a b:Claim}(h:a.hour=b.hour):aK a b=true↔tlt a b:=by
 rw[yN,decide_eq_true_eq,zA];simp only[zz,tlt,un,and_false,or_false];omega
theorem AJ {a b c:Claim}(h1:tlt a b)(h2:tlt b c):tlt a c:=by simp only[tlt,un,and_false,or_false]at *;omega
theorem Gq {a b:Claim}(h1:¬tlt a b)(h2:¬tlt b a):D5 a b:=by simp only[tlt,un,and_false,or_false,D5]at *;omega
theorem Ij {a b c:Claim}(h1:tlt a b)(h2:D5 c b):tlt a c:=by simp only[tlt,un,and_false,or_false,D5]at *;omega
theorem PD {a b c:Claim}(h1:tlt a b)(h2:D5 c a):tlt c b:=by simp only[tlt,un,and_false,or_false,D5]at *;omega
theorem tx (y:Claim)(l:List Claim)(x:Claim):ik (y::l) x=if aK y x=true then y::ik l x else rH x (y::l):=by
 unfold ik;by_cases h:aK y x=true
 ·rw[if_pos h,List.takeWhile_cons_of_pos (p:=fun y=>aK y x) h,List.dropWhile_cons_of_pos (p:=fun y=>aK y x) h];rfl
 ·rw[if_neg h,List.takeWhile_cons_of_neg (p:=fun y=>aK y x) h,List.dropWhile_cons_of_neg (p:=fun y=>aK y x) h];rfl
theorem Dv (x:Claim):∀ (l:List Claim),l.Pairwise tlt->(∀ y∈l,y.hour=x.hour)->
  (ik l x).Pairwise tlt/\(∀ z∈ik l x,z.hour=x.hour/\(D5 z x\/∃ w∈l,D5 z w))/\∀ r p,amt (ik l x) r p=amt l r p+if x.right=r/\x.farm=p then x.litres else 0
 | [],_,_=>by
  refine⟨List.pairwise_singleton _ _,fun z hz=>?_,fun r p=>?_⟩
  ·have:z=x:=by simpa[ik,rH]using hz
   subst this;exact⟨rfl,.inl ⟨rfl,rfl,rfl⟩⟩
  ·simp[ik,rH,amt]
 |y::l,hs,hh=>by
  have hs':=List.pairwise_cons.1 hs;have hy:=hh y (by simp);have hh':∀ z∈l,z.hour=x.hour:=fun z hz=>hh z (by simp[hz]);rw[tx];by_cases h1:aK y x=true
  ·rw[if_pos h1];have t1:=(qJ hy).1 h1;obtain⟨q1,q2,q3⟩:=Dv x l hs'.2 hh';refine⟨List.pairwise_cons.2 ⟨fun z hz=>?_,q1⟩,fun z hz=>?_,fun r p=>?_⟩
   ·rcases(q2 z hz).2 with h| ⟨w,hw,h⟩
    ·exact Ij t1 h
    ·exact Ij (hs'.1 w hw) h
   ·rcases List.mem_cons.1 hz with rfl|hz
    ·exact⟨hy,.inr ⟨z,by simp,rfl,rfl,rfl⟩⟩
    ·obtain⟨g1,g2⟩:=q2 z hz;refine⟨g1,?_⟩;rcases g2 with h| ⟨w,hw,h⟩
     ·exact .inl h
     ·exact .inr ⟨w,by simp[hw],h⟩
   ·rw[amt,amt,q3];omega
  ·rw[if_neg h1];have t1:¬tlt y x:=fun h=>h1 ((qJ hy).2 h);by_cases h2:aK x y=true
   ·have t2:=(qJ hy.symm).1 h2;rw[rH,if_pos h2];refine⟨List.pairwise_cons.2 ⟨fun z hz=>?_,hs⟩,fun z hz=>?_,fun r p=>?_⟩
    ·rcases List.mem_cons.1 hz with rfl|hz
     ·exact t2
     ·exact AJ t2 (hs'.1 z hz)
    ·rcases List.mem_cons.1 hz with rfl|hz
     ·exact⟨rfl,.inl ⟨rfl,rfl,rfl⟩⟩
     ·exact⟨hh z hz,.inr ⟨z,hz,rfl,rfl,rfl⟩⟩
    ·rw[amt];omega
   ·have t2:¬tlt x y:=fun h=>h2 ((qJ hy.symm).2 h);have hk:=Gq t2 t1;rw[rH,if_neg h2];refine⟨List.pairwise_cons.2 ⟨fun z hz=>PD (hs'.1 z hz) hk,hs'.2⟩,fun z hz=>?_,fun r p=>?_⟩
    ·rcases List.mem_cons.1 hz with rfl|hz
     ·exact⟨rfl,.inl ⟨rfl,rfl,rfl⟩⟩
     ·exact⟨hh' z hz,.inr ⟨z,by simp[hz],rfl,rfl,rfl⟩⟩
    ·rw[amt,amt];obtain⟨_,k2,k3⟩:=hk;show(if x.right=r/\x.farm=p then x.litres+y.litres else 0)+_=_;rw[k2,k3];split <;>omega
theorem zP:∀ {l:List Claim} {r p:Int},(∀ y∈l,¬ (y.right=r/\y.farm=p))->amt l r p=0
 | [],_,_,_=>rfl
 |x::l,r,p,h=>by rw[amt,if_neg (h x (by simp)),zP fun y hy=>h y (by simp[hy])];rfl
structure Dock (ρ:Int->Int)(h:Int)(l:List Claim):Prop where
 s:l.Pairwise tlt
 rk:∀ y∈l,y.rank=ρ y.right
 hr:∀ y∈l,y.hour=h
 pos:∀ y∈l,0<y.litres
section
variable {ρ:Int->Int}{h:Int}
theorem Dock.tail {x:Claim}{l:List Claim}(d:Dock ρ h (x::l)):Dock ρ h l:=⟨(List.pairwise_cons.1 d.s).2,fun y hy=>d.rk y (by simp[hy]),fun y hy=>d.hr y (by simp[hy]),fun y hy=>d.pos y (by simp[hy])⟩
theorem J0 {x y:Claim}(h1:tlt x y)(hx:x.rank=ρ x.right)(hy:y.rank=ρ y.right):¬ (y.right=x.right/\y.farm=x.farm):=by
 rintro⟨e1,e2⟩;rw[e1]at hy;simp only[tlt,un,and_false,or_false]at h1;omega
theorem Dock.head {x:Claim}{l:List Claim}(d:Dock ρ h (x::l)):amt (x::l) x.right x.farm=x.litres:=by
 rw[amt,if_pos ⟨rfl,rfl⟩,zP fun y hy=>J0 ((List.pairwise_cons.1 d.s).1 y hy) (d.rk x (by simp)) (d.rk y (by simp[hy]))];omega
theorem Dock.below {x:Claim}{l:List Claim}(d:Dock ρ h l)(hx:x.rank=ρ x.right)(hl:∀ y∈l,tlt x y):amt l x.right x.farm=0:=zP fun y hy=>J0 (hl y hy) hx (d.rk y hy)
theorem AK:∀ {l m:List Claim},Dock ρ h l->Dock ρ h m->(∀ r p,amt l r p=amt m r p)->l=m
 | [],[],_,_,_=>rfl
 | [],b::m,_,dm,e=>by
  have h1:=e b.right b.farm;rw[dm.head]at h1;have h2:=dm.pos b (by simp);simp only[amt]at h1;omega
 |a::l,[],dl,_,e=>by
  have h1:=e a.right a.farm;rw[dl.head]at h1;have h2:=dl.pos a (by simp);simp only[amt]at h1;omega
 |a::l,b::m,dl,dm,e=>by
  have ra:=dl.rk a (by simp);have rb:=dm.rk b (by simp);have la:=List.pairwise_cons.1 dl.s;have lb:=List.pairwise_cons.1 dm.s;by_cases h1:tlt a b
  ·have h2:=e a.right a.farm;rw[dl.head,dm.below ra fun y hy=>by
    rcases List.mem_cons.1 hy with rfl|hy
    ·exact h1
    ·exact AJ h1 (lb.1 y hy)]at h2
   have:=dl.pos a (by simp);omega
  ·by_cases h2:tlt b a
   ·have h3:=e b.right b.farm;rw[dm.head,dl.below rb fun y hy=>by
     rcases List.mem_cons.1 hy with rfl|hy
     ·exact h2
     ·exact AJ h2 (la.1 y hy)]at h3
    have:=dm.pos b (by simp);omega
   ·obtain⟨k1,k2,k3⟩:=Gq h1 h2;have h3:=e a.right a.farm;have h4:=dm.head;rw[dl.head,k2,k3,h4]at h3;have hab:a=b:=by
     have e1:=(dl.hr a (by simp)).trans (dm.hr b (by simp)).symm;cases a;cases b;simp only at k1 k2 k3 h3 e1;subst k1 k2 k3 h3 e1;rfl
    subst hab;rw[AK dl.tail dm.tail fun r p=>by have:=e r p;rw[amt,amt]at this;omega]
theorem yP:∀ (l:List Claim) (r p:Int),amt (l.filter fun x=>!ap x) r p=amt l r p
 | [],_,_=>rfl
 |x::l,r,p=>by
  by_cases hx:x.litres=0
  ·rw[List.filter_cons_of_neg (by unfold ap;simp[hx]),yP l,amt,hx];split <;>omega
  ·rw[List.filter_cons_of_pos (by unfold ap;simp[hx]),amt,amt,yP l]
theorem Dw {l m:List Claim}(h:l.Perm m)(r p:Int):amt l r p=amt m r p:=by
 induction h with
 |nil=>rfl
 |cons x _ ih=>rw[amt,amt,ih]
 |swap x y l=>rw[amt,amt,amt,amt];omega
 |trans _ _ h1 h2=>rw[h1,h2]
end
abbrev ol (b:Int)(l:List Claim):Prop:= ∀ y∈l,0<=y.litres/\y.litres<=b
theorem Ik {b c:Int}{x:Claim}{l:List Claim}(hb:0<=b)(hl:ol b l)(hx:0<=x.litres/\x.litres<=c):ol (b+c) (rH x l)/\(rH x l).length<=l.length+1:=by
 cases l with
 |nil=>
  refine⟨fun y hy=>?_,by simp[rH]⟩;have:y=x:=by simpa[rH]using hy
  subst this;omega
 |cons y r=>
  have hy:=hl y (by simp);rw[rH];by_cases h:aK x y=true
  ·rw[if_pos h];refine⟨fun z hz=>?_,by simp⟩;rcases List.mem_cons.1 hz with rfl|hz
   ·omega
   ·have:=hl z hz;omega
  ·rw[if_neg h];refine⟨fun z hz=>?_,by simp⟩;rcases List.mem_cons.1 hz with rfl|hz
   ·show 0<=x.litres+y.litres/\x.litres+y.litres<=b+c;omega
   ·have:=hl z (by simp[hz]);omega
theorem BO {b c:Int}{x:Claim}(hb:0<=b)(hx:0<=x.litres/\x.litres<=c):∀ {l:List Claim},ol b l->ol (b+c) (ik l x)/\(ik l x).length<=l.length+1
 | [],hl=>Ik hb hl hx
 |y::l,hl=>by
  rw[tx];split
  ·obtain⟨q1,q2⟩:=BO hb hx (l:=l) fun z hz=>hl z (by simp[hz]);have hy:=hl y (by simp);refine⟨fun z hz=>?_,by simp only[List.length_cons];omega⟩;rcases List.mem_cons.1 hz with rfl|hz
   ·omega
   ·exact q1 z hz
  ·exact Ik hb hl hx
def zQ (y:Claim)(o n:Int):Claim:= { right:=y.right,farm:=o,hour:=y.hour,litres:=n,rank:=y.rank}
def gv (f o:Int):List Claim->Int->List Claim->List Claim->List Claim×List Claim
 | [],_,K,G=>(K,G)
 |y::r,n,K,G=>if y.farm=f then gv f o r (n - bN n y.litres) (if y.litres - bN n y.litres > 0 then ik K (mD y (y.litres - bN n y.litres))else K) (if bN n y.litres > 0 then G++[zQ y o (bN n y.litres)]else G)
  else gv f o r n (if y.litres > 0 then ik K y else K) G
theorem PE (l:List Claim)(f o b0:Int)(hb0:0<=b0/\b0<=4398046511104)(hll:l.length<=8192)(hmB:(l.length+2)*40<=c6):∀ (R B:List Claim) (n:Int) (K G:List Claim) (k:Nat),l=R.reverse++B->0<=n->n<4611686018427387904->ol b0 R->
  ol ((B.length:Int)*b0) K->K.length<=B.length->G.length<=B.length->
  okI (iT l f o) (lJ l f o) (R.length+1) k (n,K,G,(R.length:Int) - 1)/\an (iT l f o) (R.length+1) k (n,K,G,(R.length:Int) - 1)=.inl (gv f o R n K G)
 | [],B,n,K,G,k,hl,h0,h1,hR,hK,hKl,hGl=>by
  have e:decide (((0:Nat):Int) - 1>=0)=false:=decide_eq_false (by omega);simp only[List.length_nil,okI,an,iT,lJ,e,cond_false,gv];exact⟨⟨fun h=>(by cases h),fun s h=>(by cases h)⟩,by simp⟩
 |y::R,B,n,K,G,k,hl,h0,h1,hR,hK,hKl,hGl=>by
  have hy:=hR y (by simp);have hR':ol b0 R:=fun z hz=>hR z (by simp[hz]);have hlen:l.length=R.length+1+B.length:=by rw[hl];simp;omega
  have hl':l=R.reverse++(y::B):=by rw[hl];simp
  have hi:(((y::R).length:Nat):Int) - 1=(R.length:Int):=by simp
  have g:l.getD (Int.toNat (R.length:Int)) default=y:=by rw[hl',Int.toNat_natCast];exact fK R.reverse y default B (by simp)
  have e:decide ((R.length:Int)>=0)=true:=decide_eq_true (by omega);have w1:i64.wrap ((R.length:Int) - 1)=(R.length:Int) - 1:=fE (by omega) (by omega);have hm:=p_ (a:=n) (b:=y.litres);have hm0:0<=bN n y.litres:=by omega
  have e4:(if n<y.litres then n else y.litres)=bN n y.litres:=rfl;have w2:i64.wrap (n - bN n y.litres)=n - bN n y.litres:=fE (by omega) (by omega);have w3:i64.wrap (y.litres - bN n y.litres)=y.litres - bN n y.litres:=fE (by omega) (by omega);have hBb:0<=(B.length:Int)*b0/\(B.length:Int)*b0<=36028797018963968:=by
   refine⟨Int.mul_nonneg (by omega) hb0.1,?_⟩;have h2:(B.length:Int)*b0<=8192*b0:=Int.mul_le_mul_of_nonneg_right (by omega) hb0.1;omega
  have hKL:Lit K:=fun z hz=>by have:=hK z hz;omega
  have hB1:(((y::B).length:Nat):Int)*b0=(B.length:Int)*b0+b0:=by rw[List.length_cons,Int.natCast_add,Int.add_mul];simp
  have hG:∀ z:Claim,(G++[z]).length*40<=c6/\(G++[z]).length<=(y::B).length:=fun z=>by
   rw[List.length_append];simp only[List.length_cons,List.length_nil];omega
  have hKm:ol ((((y::B).length:Nat):Int)*b0) K:=fun z hz=>by rw[hB1];have:=hK z hz;omega
  have P:∀ z:Claim,0<=z.litres/\z.litres<=b0->pb K z/\sF K z=ik K z/\ol ((((y::B).length:Nat):Int)*b0) (ik K z)/\(ik K z).length<=(y::B).length:=fun z hz=>by
   obtain⟨p1,p2⟩:=PC K z (by omega) (by omega) hKL;obtain⟨p3,p4⟩:=BO hBb.1 hz hK;exact⟨p1,p2,by rw[hB1];exact p3,by simp only[List.length_cons];omega⟩
  rw[hi];simp only[List.length_cons];rw[okI,an];simp only[iT,lJ,e,g,e4,w1,w2,w3,cond_true];have rec_:∀ (n':Int) (K' G':List Claim),0<=n'->n'<=n->ol ((((y::B).length:Nat):Int)*b0) K'->K'.length<=(y::B).length->G'.length<=(y::B).length->okI (iT l f o) (lJ l f o) (R.length+1) (k+1) (n',K',G',(R.length:Int) - 1)/\an (iT l f o) (R.length+1) (k+1) (n',K',G',(R.length:Int) - 1)=.inl (gv f o R n' K' G'):=fun n' K' G' a1 a2 a3 a4 a5=>PE l f o b0 hb0 hll hmB R (y::B) n' K' G' (k+1) hl' a1 (by omega) hR' a3 a4 a5;have hKs:K.length<=(y::B).length:=by simp only[List.length_cons];omega
  have hGs:G.length<=(y::B).length:=by simp only[List.length_cons];omega
  have hidx:(0:Int)<=(R.length:Int)/\(R.length:Int) < (l.length:Int):=⟨by omega,by omega⟩;by_cases hf:y.farm=f
  ·rw[show(y.farm==f)=true by simpa using hf,gv,if_pos hf];simp only[cond_true];by_cases hg:bN n y.litres > 0
   ·rw[decide_eq_true hg,if_pos hg];simp only[cond_true];by_cases hr:y.litres - bN n y.litres > 0
    ·rw[decide_eq_true hr,if_pos hr];simp only[cond_true];obtain⟨p1,p2,p3,p4⟩:=P (mD y (y.litres - bN n y.litres)) ⟨by show 0<=y.litres - bN n y.litres;omega,by show y.litres - bN n y.litres<=b0;omega⟩;obtain⟨q1,q2⟩:=rec_ (n - bN n y.litres) (ik K (mD y (y.litres - bN n y.litres))) (G++[zQ y o (bN n y.litres)]) (by omega) (by omega) p3 p4 (hG _).2;rw[<-p2]at q1 q2 |-;exact⟨⟨fun _=>⟨hidx,fun _=>⟨fun _=>⟨(hG _).1,fun _ _=>p1⟩,fun h=>(by cases h)⟩,fun h=>(by cases h)⟩,fun s h=>by cases h;exact q1⟩,q2⟩
    ·rw[decide_eq_false hr,if_neg hr];simp only[cond_false];obtain⟨q1,q2⟩:=rec_ (n - bN n y.litres) K (G++[zQ y o (bN n y.litres)]) (by omega) (by omega) hKm hKs (hG _).2;exact⟨⟨fun _=>⟨hidx,fun _=>⟨fun _=>⟨(hG _).1,fun _ h=>(by cases h)⟩,fun h=>(by cases h)⟩,fun h=>(by cases h)⟩,fun s h=>by cases h;exact q1⟩,q2⟩
   ·rw[decide_eq_false hg,if_neg hg];simp only[cond_false];by_cases hr:y.litres - bN n y.litres > 0
    ·rw[decide_eq_true hr,if_pos hr];simp only[cond_true];obtain⟨p1,p2,p3,p4⟩:=P (mD y (y.litres - bN n y.litres)) ⟨by show 0<=y.litres - bN n y.litres;omega,by show y.litres - bN n y.litres<=b0;omega⟩;obtain⟨q1,q2⟩:=rec_ (n - bN n y.litres) (ik K (mD y (y.litres - bN n y.litres))) G (by omega) (by omega) p3 p4 hGs;rw[<-p2]at q1 q2 |-;exact⟨⟨fun _=>⟨hidx,fun _=>⟨fun h=>(by cases h),fun _ _=>p1⟩,fun h=>(by cases h)⟩,fun s h=>by cases h;exact q1⟩,q2⟩
    ·rw[decide_eq_false hr,if_neg hr];simp only[cond_false];obtain⟨q1,q2⟩:=rec_ (n - bN n y.litres) K G (by omega) (by omega) hKm hKs hGs;exact⟨⟨fun _=>⟨hidx,fun _=>⟨fun h=>(by cases h),fun _ h=>(by cases h)⟩,fun h=>(by cases h)⟩,fun s h=>by cases h;exact q1⟩,q2⟩
  ·rw[show(y.farm==f)=false by simpa using hf,gv,if_neg hf];simp only[cond_false];by_cases hr:y.litres > 0
   ·rw[decide_eq_true hr,if_pos hr];simp only[cond_true];obtain⟨p1,p2,p3,p4⟩:=P y hy;obtain⟨q1,q2⟩:=rec_ n (ik K y) G h0 (by omega) p3 p4 hGs;rw[<-p2]at q1 q2 |-;exact⟨⟨fun _=>⟨hidx,fun h=>(by cases h),fun _ _=>p1⟩,fun s h=>by cases h;exact q1⟩,q2⟩
   ·rw[decide_eq_false hr,if_neg hr];simp only[cond_false];obtain⟨q1,q2⟩:=rec_ n K G h0 (by omega) hKm hKs hGs;exact⟨⟨fun _=>⟨hidx,fun h=>(by cases h),fun _ h=>(by cases h)⟩,fun s h=>by cases h;exact q1⟩,q2⟩
section
variable {ρ:Int->Int}{h:Int}
theorem Lr {x:Claim}(hx:0<x.litres):∀ {l:List Claim},(∀ y∈l,0<y.litres)->∀ z∈ik l x,0<z.litres
 | [],_,z,hz=>by
  have:z=x:=by simpa[ik,rH]using hz
  subst this;exact hx
 |y::l,hl,z,hz=>by
  rw[tx]at hz;have hy:=hl y (by simp);by_cases h1:aK y x=true
  ·rw[if_pos h1]at hz;rcases List.mem_cons.1 hz with rfl|hz
   ·exact hy
   ·exact Lr hx (fun w hw=>hl w (by simp[hw])) z hz
  ·rw[if_neg h1,rH]at hz;by_cases h2:aK x y=true
   ·rw[if_pos h2]at hz;rcases List.mem_cons.1 hz with rfl|hz
    ·exact hx
    ·exact hl z hz
   ·rw[if_neg h2]at hz;rcases List.mem_cons.1 hz with rfl|hz
    ·show 0<x.litres+y.litres;omega
    ·exact hl z (by simp[hz])
theorem Dock.put {l:List Claim}{x:Claim}(d:Dock ρ h l)(hx:0<x.litres)(hr:x.rank=ρ x.right)(hh:x.hour=h):Dock ρ h (ik l x)/\∀ r p,amt (ik l x) r p=amt l r p+if x.right=r/\x.farm=p then x.litres else 0:=by
 obtain⟨q1,q2,q3⟩:=Dv x l d.s fun y hy=>(d.hr y hy).trans hh.symm;refine⟨⟨q1,fun z hz=>?_,fun z hz=>(q2 z hz).1.trans hh,Lr hx d.pos⟩,q3⟩;rcases(q2 z hz).2 with⟨k1,k2,_⟩ | ⟨w,hw,k1,k2,_⟩
 ·rw[k1,k2];exact hr
 ·rw[k1,k2];exact d.rk w hw
structure Gift (ρ:Int->Int)(h o:Int)(l:List Claim):Prop where
 rk:∀ y∈l,y.rank=ρ y.right
 hr:∀ y∈l,y.hour=h
 pos:∀ y∈l,0<y.litres
 fm:∀ y∈l,y.farm=o
theorem Gr {f o:Int}:∀ (R:List Claim) (n:Int) (K G:List Claim),0<=n->(∀ y∈R,y.rank=ρ y.right/\y.hour=h/\0<=y.litres)->Dock ρ h K->Gift ρ h o G->
  Dock ρ h (gv f o R n K G).1/\Gift ρ h o (gv f o R n K G).2/\∀ r p,amt (gv f o R n K G).1 r p+(if p=f then amt (gv f o R n K G).2 r o else 0)=amt K r p+amt R r p+(if p=f then amt G r o else 0)
 | [],n,K,G,h0,hR,dK,dG=>⟨dK,dG,fun r p=>by simp only[gv,amt];omega⟩
 |y::R,n,K,G,h0,hR,dK,dG=>by
  have hy:=hR y (by simp);have hR':∀ z∈R,z.rank=ρ z.right/\z.hour=h/\0<=z.litres:=fun z hz=>hR z (by simp[hz]);have hm:=p_ (a:=n) (b:=y.litres);have hm0:0<=bN n y.litres:=by omega
  by_cases hf:y.farm=f
  ·rw[gv,if_pos hf];have k1:Dock ρ h (if y.litres - bN n y.litres > 0 then ik K (mD y (y.litres - bN n y.litres))else K)/\∀ r p,amt (if y.litres - bN n y.litres > 0 then ik K (mD y (y.litres - bN n y.litres))else K) r p=amt K r p+if y.right=r/\y.farm=p then y.litres - bN n y.litres else 0:=by
    by_cases hr:y.litres - bN n y.litres > 0
    ·rw[if_pos hr];exact dK.put (x:=mD y (y.litres - bN n y.litres)) hr hy.1 hy.2.1
    ·rw[if_neg hr];exact⟨dK,fun r p=>by split <;>omega⟩
   have k2:Gift ρ h o (if bN n y.litres > 0 then G++[zQ y o (bN n y.litres)]else G)/\∀ r,amt (if bN n y.litres > 0 then G++[zQ y o (bN n y.litres)]else G) r o=amt G r o+if y.right=r then bN n y.litres else 0:=by
    by_cases hr:bN n y.litres > 0
    ·rw[if_pos hr];refine⟨⟨fun z hz=>?_,fun z hz=>?_,fun z hz=>?_,fun z hz=>?_⟩,fun r=>?_⟩
     ·rcases List.mem_append.1 hz with hz|hz
      ·exact dG.rk z hz
      ·rw[List.mem_singleton.1 hz];exact hy.1
     ·rcases List.mem_append.1 hz with hz|hz
      ·exact dG.hr z hz
      ·rw[List.mem_singleton.1 hz];exact hy.2.1
     ·rcases List.mem_append.1 hz with hz|hz
      ·exact dG.pos z hz
      ·rw[List.mem_singleton.1 hz];exact hr
     ·rcases List.mem_append.1 hz with hz|hz
      ·exact dG.fm z hz
      ·rw[List.mem_singleton.1 hz];rfl
     ·rw[BN,amt,amt];show _+((if y.right=r/\o=o then bN n y.litres else 0)+0)=_;simp
    ·rw[if_neg hr];exact⟨dG,fun r=>by split <;>omega⟩
   obtain⟨q1,q2,q3⟩:=Gr R (n - bN n y.litres) _ _ (by omega) hR' k1.1 k2.1;refine⟨q1,q2,fun r p=>?_⟩;rw[q3,k1.2,k2.2,amt];by_cases hp:p=f
   ·subst hp;by_cases hr:y.right=r
    ·simp only[hr,hf,and_self,if_true];omega
    ·simp only[hr,false_and,if_false,if_true];omega
   ·have:¬ (y.right=r/\y.farm=p):=fun e=>hp (by rw[<-e.2,hf]);simp only[if_neg hp,if_neg this];omega
  ·rw[gv,if_neg hf];have k1:Dock ρ h (if y.litres > 0 then ik K y else K)/\∀ r p,amt (if y.litres > 0 then ik K y else K) r p=amt K r p+if y.right=r/\y.farm=p then y.litres else 0:=by
    by_cases hr:y.litres > 0
    ·rw[if_pos hr];exact dK.put hr hy.1 hy.2.1
    ·rw[if_neg hr];exact⟨dK,fun r p=>by split <;>omega⟩
   obtain⟨q1,q2,q3⟩:=Gr R n _ G h0 hR' k1.1 dG;refine⟨q1,q2,fun r p=>?_⟩;rw[q3,k1.2,amt];omega
theorem Gs {o:Int}:∀ (G K:List Claim),Dock ρ h K->Gift ρ h o G->Dock ρ h (G.foldl ik K)/\∀ r p,amt (G.foldl ik K) r p=amt K r p+amt G r p
 | [],K,dK,_=>⟨dK,fun r p=>by simp[amt]⟩
 |x::G,K,dK,dG=>by
  obtain⟨q1,q2⟩:=dK.put (dG.pos x (by simp)) (dG.rk x (by simp)) (dG.hr x (by simp));obtain⟨p1,p2⟩:=Gs G (ik K x) q1 ⟨fun y hy=>dG.rk y (by simp[hy]),fun y hy=>dG.hr y (by simp[hy]),fun y hy=>dG.pos y (by simp[hy]),fun y hy=>dG.fm y (by simp[hy])⟩;refine⟨p1,fun r p=>?_⟩;rw[List.foldl_cons,p2,q2,amt];omega
end
theorem Sj (c b:Int):(c+1)*b=c*b+b:=by rw[Int.add_mul];simp
theorem J1 {f o b0:Int}(hb0:0<=b0):∀ (R:List Claim) (n:Int) (K G:List Claim) (c:Nat),0<=n->ol b0 R->ol ((c:Int)*b0) K->ol b0 G->K.length<=c->G.length<=c->
  ol (((c+R.length:Nat):Int)*b0) (gv f o R n K G).1/\ol b0 (gv f o R n K G).2/\(gv f o R n K G).1.length<=c+R.length/\(gv f o R n K G).2.length<=c+R.length
 | [],n,K,G,c,h0,hR,hK,hG,hkl,hgl=>⟨hK,hG,hkl,hgl⟩
 |y::R,n,K,G,c,h0,hR,hK,hG,hkl,hgl=>by
  have hy:=hR y (by simp);have hR':ol b0 R:=fun z hz=>hR z (by simp[hz]);have hm:=p_ (a:=n) (b:=y.litres);have hcb:0<=(c:Int)*b0:=Int.mul_nonneg (by omega) hb0;have e1:((c+1:Nat):Int)*b0=(c:Int)*b0+b0:=Sj c b0;have e2:c+1+R.length=c+(y::R).length:=by simp only[List.length_cons];omega
  have hK1:ol (((c+1:Nat):Int)*b0) K:=fun z hz=>by have:=hK z hz;omega
  have P:∀ z:Claim,0<=z.litres/\z.litres<=b0->ol (((c+1:Nat):Int)*b0) (ik K z)/\(ik K z).length<=c+1:=fun z hz=>by
   obtain⟨p3,p4⟩:=BO hcb hz hK;exact⟨by rw[e1];exact p3,by omega⟩
  by_cases hf:y.farm=f
  ·rw[gv,if_pos hf,<-e2];have k1:ol (((c+1:Nat):Int)*b0) (if y.litres - bN n y.litres > 0 then ik K (mD y (y.litres - bN n y.litres))else K)/\(if y.litres - bN n y.litres > 0 then ik K (mD y (y.litres - bN n y.litres))else K).length<=c+1:=by
    by_cases hr:y.litres - bN n y.litres > 0
    ·rw[if_pos hr];exact P (mD y (y.litres - bN n y.litres)) ⟨by show 0<=y.litres - bN n y.litres;omega,by show y.litres - bN n y.litres<=b0;omega⟩
    ·rw[if_neg hr];exact⟨hK1,by omega⟩
   have k2:ol b0 (if bN n y.litres > 0 then G++[zQ y o (bN n y.litres)]else G)/\(if bN n y.litres > 0 then G++[zQ y o (bN n y.litres)]else G).length<=c+1:=by
    by_cases hr:bN n y.litres > 0
    ·rw[if_pos hr];refine⟨fun z hz=>?_,by rw[List.length_append];simp only[List.length_cons,List.length_nil];omega⟩;rcases List.mem_append.1 hz with hz|hz
     ·exact hG z hz
     ·rw[List.mem_singleton.1 hz];show 0<=bN n y.litres/\bN n y.litres<=b0;omega
    ·rw[if_neg hr];exact⟨hG,by omega⟩
   exact J1 hb0 R (n - bN n y.litres) _ _ (c+1) (by omega) hR' k1.1 k2.1 k1.2 k2.2
  ·rw[gv,if_neg hf,<-e2];have k1:ol (((c+1:Nat):Int)*b0) (if y.litres > 0 then ik K y else K)/\(if y.litres > 0 then ik K y else K).length<=c+1:=by
    by_cases hr:y.litres > 0
    ·rw[if_pos hr];exact P y hy
    ·rw[if_neg hr];exact⟨hK1,by omega⟩
   exact J1 hb0 R n _ G (c+1) h0 hR' k1.1 hG k1.2 (by omega)
theorem Il (K0:List Claim){b0:Int}(hb0:0<=b0/\b0<=4398046511104)(G:List Claim):∀ (R A K:List Claim) (k c:Nat),G=A++R->A.length=k->ol b0 R->ol ((c:Int)*b0) K->K.length<=c->c+R.length<=32768->
  okI (ox (K0,G)) (rT (K0,G)) R.length k K/\an (ox (K0,G)) R.length k K=.inr (R.foldl ik K)
 | [],A,K,k,c,hG,hk,hR,hK,hKl,hc=>⟨trivial,rfl⟩
 |y::R,A,K,k,c,hG,hk,hR,hK,hKl,hc=>by
  have hy:=hR y (by simp);simp only[List.length_cons]at hc;have hm:(K.length+1)*40<=c6:=by unfold c6;omega
  have g:G.getD k default=y:=by rw[hG];exact fK A y default R hk.symm
  have hcb:0<=(c:Int)*b0/\(c:Int)*b0<=144115188075855872:=by
   refine⟨Int.mul_nonneg (by omega) hb0.1,?_⟩;have h2:(c:Int)*b0<=32768*b0:=Int.mul_le_mul_of_nonneg_right (by omega) hb0.1;omega
  have e1:((c+1:Nat):Int)*b0=(c:Int)*b0+b0:=Sj c b0;obtain⟨p1,p2⟩:=PC K y hm (by omega) (fun z hz=>by have:=hK z hz;omega);obtain⟨p3,p4⟩:=BO hcb.1 hy hK;obtain⟨q1,q2⟩:=Il K0 hb0 G R (A++[y]) (ik K y) (k+1) (c+1) (by rw[hG];simp) (by simp[hk]) (fun z hz=>hR z (by simp[hz])) (by rw[e1];exact p3) (by omega) (by omega);simp only[List.length_cons,okI,an,ox,rT,g,p2,List.foldl_cons];exact⟨⟨fun _=>p1,fun s h=>by cases h;exact q1⟩,q2⟩
theorem xn (l:List Claim)(f o n:Int){b0:Int}(hb0:0<=b0/\b0<=4398046511104)(hll:l.length<=8192)(h0:0<=n)(h1:n<4611686018427387904)(hl:ol b0 l):
  su l f o n/\jR l f o n=(gv f o l.reverse n [] []).2.foldl ik (gv f o l.reverse n [] []).1:=by
 have hr:ol b0 l.reverse:=fun y hy=>hl y (by simpa using hy);obtain⟨q1,q2⟩:=PE l f o b0 hb0 hll (by unfold c6;omega) l.reverse [] n [] [] 0 (by simp) h0 h1 hr (fun y hy=>by cases hy) (by simp) (by simp);obtain⟨g1,g2,g3,g4⟩:=J1 (f:=f) (o:=o) hb0.1 l.reverse n [] [] 0 h0 hr (fun y hy=>by cases hy) (fun y hy=>by cases hy) (by simp) (by simp);simp only[List.length_reverse,Nat.zero_add]at q1 q2 g1 g3 g4;obtain⟨r1,r2⟩:=Il (gv f o l.reverse n [] []).1 hb0 (gv f o l.reverse n [] []).2 (gv f o l.reverse n [] []).2 [] (gv f o l.reverse n [] []).1 0 l.length rfl rfl g2 g1 g3 (by omega);have w:i64.wrap ((l.length:Int) - 1)=(l.length:Int) - 1:=fE (by omega) (by omega);unfold su jR;rw[w,q2];refine⟨fun _=>⟨q1,fun z hz=>(by cases hz),fun r hr=>by cases hr;exact r1⟩,?_⟩;simp only;rw[r2]
abbrev Im (l:List Claim):Prop:=l.Pairwise fun a b=>¬ (a.right=b.right/\a.farm=b.farm)
theorem Ls:∀ (S:List Claim) (i:Nat) (z:Claim),i<S.length->z.right=(S.getD i default).right->z.farm=(S.getD i default).farm->∀ r p,amt (S.set i z) r p=amt S r p+if z.right=r/\z.farm=p then z.litres - (S.getD i default).litres else 0
 | [],i,z,h,_,_,_,_=>absurd h (Nat.not_lt_zero _)
 |x::S,0,z,_,h1,h2,r,p=>by
  have e:(x::S).getD 0 default=x:=rfl;rw[e]at h1 h2 |-;rw[List.set_cons_zero,amt,amt,<-h1,<-h2];split <;>omega
 |x::S,i+1,z,h,h1,h2,r,p=>by
  have e:(x::S).getD (i+1) default=S.getD i default:=rfl;rw[e]at h1 h2 |-;rw[List.set_cons_succ,amt,amt,Ls S i z (by simpa using h) h1 h2 r p];omega
theorem PG {S:List Claim}{i:Nat}{z:Claim}(hi:i<S.length)(h1:z.right=(S.getD i default).right)(h2:z.farm=(S.getD i default).farm)(hd:Im S):Im (S.set i z):=by
 rw[qR _ _ hi]at h1 h2;unfold Im at hd |-;rw[List.pairwise_iff_getElem]at hd |-;intro a b ha hb hab;rw[List.length_set]at ha hb;rw[List.getElem_set,List.getElem_set];have h3:=hd a b ha hb hab;by_cases ea:i=a
 ·subst ea;rw[if_pos rfl,if_neg (by omega:¬i=b),h1,h2];exact h3
 ·by_cases eb:i=b
  ·subst eb;rw[if_neg ea,if_pos rfl,h1,h2];exact h3
  ·rw[if_neg ea,if_neg eb];exact h3
theorem PH {S:List Claim}{z:Claim}(hd:Im S)(h:∀ y∈S,¬ (y.right=z.right/\y.farm=z.farm)):Im (S++[z]):=
 List.pairwise_append.2 ⟨hd,List.pairwise_singleton _ _,fun a ha b hb=>by rw[List.mem_singleton.1 hb];exact h a ha⟩
def gn (f:Int):List Claim->Int->Int->Int
 | [],_,_=>0
 |y::R,n,r=>if y.farm=f then(if y.right=r then bN n y.litres else 0)+gn f R (n - bN n y.litres) r else gn f R n r
theorem PI {f o:Int}:∀ (R:List Claim) (n:Int) (K G:List Claim),0<=n->(∀ y∈R,0<=y.litres)->∀ r,amt (gv f o R n K G).2 r o=amt G r o+gn f R n r
 | [],n,K,G,_,_,r=>by simp[gv,gn]
 |y::R,n,K,G,h0,hR,r=>by
  have hy:=hR y (by simp);have hR':∀ z∈R,0<=z.litres:=fun z hz=>hR z (by simp[hz]);have hm:=p_ (a:=n) (b:=y.litres);by_cases hf:y.farm=f
  ·rw[gv,if_pos hf,gn,if_pos hf,PI R _ _ _ (by omega) hR'];by_cases hr:bN n y.litres > 0
   ·rw[if_pos hr,BN,amt,amt];show _+((if y.right=r/\o=o then bN n y.litres else 0)+0)+_=_;simp only[and_true];omega
   ·rw[if_neg hr];split <;>omega
  ·rw[gv,if_neg hf,gn,if_neg hf,PI R _ _ _ h0 hR']
theorem MN {x:Claim}{l:List Claim}(h:∀ y∈l,y.hour=x.hour)(hk:∀ y∈l,¬D5 x y)(hn:∀ y∈l.head?,¬tlt y x):(rH x l).Perm (x::l):=by
 cases l with
 |nil=>exact List.Perm.refl _
 |cons y r=>
  rw[rH];by_cases h1:aK x y=true
  ·rw[if_pos h1]
  ·exact absurd (Gq (fun e=>h1 ((qJ (h y (by simp)).symm).2 e)) (hn y (by simp))) (hk y (by simp))
theorem In {x:Claim}:∀ {l:List Claim},(∀ y∈l,y.hour=x.hour)->(∀ y∈l,¬D5 x y)->(ik l x).Perm (x::l)
 | [],_,_=>List.Perm.refl _
 |y::l,h,hk=>by
  rw[tx];by_cases h1:aK y x=true
  ·rw[if_pos h1];exact((In (fun z hz=>h z (by simp[hz])) fun z hz=>hk z (by simp[hz])).cons y).trans (List.Perm.swap x y l)
  ·rw[if_neg h1];refine MN h hk fun z hz=>?_;have:z=y:=by simpa using hz.symm
   subst this;exact fun e=>h1 ((qJ (h z (by simp))).2 e)
theorem A_ {α:Type}(S:List α)(d z:α){i j:Nat}(h:i≠j):(S.set i z).getD j d=S.getD j d:=by
 rw[List.getD_eq_getElem?_getD,List.getElem?_set_ne h,<-List.getD_eq_getElem?_getD]
theorem Ba {α:Type}(S:List α)(d z:α){i:Nat}(h:i<S.length):(S.set i z).getD i d=z:=by
 rw[List.getD_eq_getElem?_getD,List.getElem?_set_self h];rfl
structure Pile (ρ:Int->Int)(h b:Int)(S:List Claim):Prop where
 d:Im S
 rk:∀ y∈S,y.rank=ρ y.right
 hr:∀ y∈S,y.hour=h
 lit:ol b S
section
variable {ρ:Int->Int}{h b b0:Int}
theorem Pile.set {S:List Claim}{i:Nat}{v:Int}(p:Pile ρ h b S)(hi:i<S.length)(hb:b<=b0)(hv:0<=v/\v<=b0):Pile ρ h b0 (S.set i (mD (S.getD i default) v))/\∀ r q,amt (S.set i (mD (S.getD i default) v)) r q=amt S r q+if(S.getD i default).right=r/\(S.getD i default).farm=q then v - (S.getD i default).litres else 0:=by
 have hm:S.getD i default∈S:=u5 S default hi;refine⟨⟨PG hi rfl rfl p.d,fun y hy=>?_,fun y hy=>?_,fun y hy=>?_⟩,fun r q=>Ls S i (mD (S.getD i default) v) hi rfl rfl r q⟩
 ·rcases List.mem_or_eq_of_mem_set hy with hy|rfl
  ·exact p.rk y hy
  ·exact p.rk (S.getD i default) hm
 ·rcases List.mem_or_eq_of_mem_set hy with hy|rfl
  ·exact p.hr y hy
  ·exact p.hr (S.getD i default) hm
 ·rcases List.mem_or_eq_of_mem_set hy with hy|rfl
  ·have:=p.lit y hy;omega
  ·exact hv
theorem Pile.app {S:List Claim}{z:Claim}(p:Pile ρ h b S)(hb:b<=b0)(h1:z.rank=ρ z.right)(h2:z.hour=h)(h3:0<=z.litres/\z.litres<=b0)(hn:∀ y∈S,¬ (y.right=z.right/\y.farm=z.farm)):Pile ρ h b0 (S++[z])/\∀ r q,amt (S++[z]) r q=amt S r q+if z.right=r/\z.farm=q then z.litres else 0:=by
 refine⟨⟨PH p.d hn,fun y hy=>?_,fun y hy=>?_,fun y hy=>?_⟩,fun r q=>by rw[BN,amt,amt];omega⟩
 ·rcases List.mem_append.1 hy with hy|hy
  ·exact p.rk y hy
  ·rw[List.mem_singleton.1 hy];exact h1
 ·rcases List.mem_append.1 hy with hy|hy
  ·exact p.hr y hy
  ·rw[List.mem_singleton.1 hy];exact h2
 ·rcases List.mem_append.1 hy with hy|hy
  ·have:=p.lit y hy;omega
  ·rw[List.mem_singleton.1 hy];exact h3
theorem E2:∀ {S:List Claim},Pile ρ h b S->(∀ y∈S,0<y.litres)->∃ m,S.Perm m/\Dock ρ h m
 | [],_,_=>⟨[],List.Perm.refl _,⟨List.Pairwise.nil,(fun y hy=>by cases hy),(fun y hy=>by cases hy),(fun y hy=>by cases hy)⟩⟩
 |x::S,p,hp=>by
  have hd:=List.pairwise_cons.1 p.d;obtain⟨m,q1,q2⟩:=E2 (S:=S) ⟨hd.2,fun y hy=>p.rk y (by simp[hy]),fun y hy=>p.hr y (by simp[hy]),fun y hy=>p.lit y (by simp[hy])⟩ fun y hy=>hp y (by simp[hy]);refine⟨ik m x,((q1.cons x).trans (In (fun y hy=>?_) fun y hy e=>?_).symm),(q2.put (hp x (by simp)) (p.rk x (by simp)) (p.hr x (by simp))).1⟩
  ·exact(q2.hr y hy).trans (p.hr x (by simp)).symm
  ·exact hd.1 y (q1.symm.subset hy) ⟨e.2.1,e.2.2⟩
theorem MO {S:List Claim}(p:Pile ρ h b S)(hl:S.length<2 ^ 46):cJ S/\Dock ρ h (du S)/\∀ r q,amt (du S) r q=amt S r q:=by
 have hs:(S.filter fun x=>!ap x).Sublist S:=List.filter_sublist;obtain⟨m,q1,q2⟩:=E2 (S:=S.filter fun x=>!ap x) ⟨p.d.sublist hs,fun y hy=>p.rk y (hs.subset hy),fun y hy=>p.hr y (hs.subset hy),fun y hy=>p.lit y (hs.subset hy)⟩ fun y hy=>by
  have h1:=p.lit y (hs.subset hy);have h2:=(List.mem_filter.1 hy).2;have h3:y.litres≠0:=fun e=>by unfold ap at h2;rw[e]at h2;cases h2
  omega
 obtain⟨t1,t2⟩:=Gd hl q1 q2.s;rw[t2];exact⟨t1,q2,fun r q=>by rw[<-Dw q1,yP]⟩
end
section
variable {ρ:Int->Int}{h b b0:Int}
theorem Dx {A g L:Int}{P:Prop}[Decidable P]{q f o:Int}(hfo:o≠f):A+(if P/\f=q then L - g - L else 0)+(if P/\o=q then g else 0)=A+(if P/\q=o then g else 0) - (if P/\q=f then g else 0):=by
 by_cases hP:P
 ·simp only[hP,true_and]
  repeat' split
  all_goals omega
 ·simp only[hP,false_and,if_false];omega
theorem J2 (S1:List Claim)(x:Judgement)(i:Nat)(hi:i<S1.length):
  bQ S1 x S1 (i:Int)/\
  ((aF S1 x S1 (i:Int)= -1/\∀ y∈S1,¬ (y.right=(S1.getD i default).right/\y.farm=x.other))\/
   ∃ j,j<S1.length/\aF S1 x S1 (i:Int)=(j:Int)/\(S1.getD j default).right=(S1.getD i default).right/\(S1.getD j default).farm=x.other):=by
 have eP:∀ y:Claim,fc y x S1 (i:Int)=(y.farm==x.other&&y.right==(S1.getD i default).right):=fun y=>by
  unfold fc;rw[Int.toNat_natCast]
 refine⟨fun _=>j7 _ _ _ fun j s _ _=>?_,?_⟩
 ·unfold bE hM;exact fun _=>⟨by omega,by omega⟩
 ·unfold aF;rcases zC (step:=bL S1 x S1 (i:Int)) S1 default (fun y=>fc y x S1 (i:Int)) (fun k _=>rfl)with⟨e,hN⟩ | ⟨K,z,T,h1,e,h2,h3⟩
  ·rw[e];refine .inl ⟨rfl,fun y hy hk=>?_⟩;have:=hN y hy;rw[eP,hk.1,hk.2]at this;simp at this
  ·rw[e];have g:S1.getD K.length default=z:=by rw[h1];exact fK K z default T rfl
   rw[eP]at h2;simp only[Bool.and_eq_true,beq_iff_eq]at h2;refine .inr ⟨K.length,by rw[h1];simp,rfl,by rw[g];exact h2.2,by rw[g];exact h2.1⟩
theorem MP (x:Judgement)(l:List Claim){S:List Claim}{i k:Nat}{n:Int}(hb:0<=b/\b+b0<=1152921504606846976)(hb0:0<=b0)(p:Pile ρ h b S)(hi:i<S.length)(hf:(S.getD i default).farm=x.farm)(hxo:x.other≠x.farm)(hn:0<=n/\n<4611686018427387904)(hy:(S.getD i default).litres<=b0)(hL:S.length<=32768):
  b7 x l k ((i:Int),S,n)/\∃ S2,bX x l k ((i:Int),S,n)=.inr ((i:Int) - 1,S2,n - bN n (S.getD i default).litres)/\Pile ρ h (b+b0) S2/\S.length<=S2.length/\S2.length<=S.length+1/\
   (∀ j,j<i->(S2.getD j default).right=(S.getD j default).right/\(S2.getD j default).farm=(S.getD j default).farm/\((S.getD j default).farm=x.farm->(S2.getD j default).litres=(S.getD j default).litres))/\
   ∀ r q,amt S2 r q=amt S r q+(if(S.getD i default).right=r/\q=x.other then bN n (S.getD i default).litres else 0) - (if(S.getD i default).right=r/\q=x.farm then bN n (S.getD i default).litres else 0):=by
 have hm:=p_ (a:=n) (b:=(S.getD i default).litres);have hY:S.getD i default∈S:=u5 S default hi;have hYl:=p.lit _ hY;generalize hg:bN n (S.getD i default).litres=g at *;have hg0:0<=g/\g<=b0:=by omega
 generalize hS1:S.set i (mD (S.getD i default) ((S.getD i default).litres - g))=S1;obtain⟨p1,a1⟩:=p.set (b0:=b) hi (Int.le_refl _) (v:=(S.getD i default).litres - g) (by omega);rw[hS1]at p1 a1;have hl1:S1.length=S.length:=by rw[<-hS1,List.length_set]
 have g1:S1.getD i default=mD (S.getD i default) ((S.getD i default).litres - g):=by rw[<-hS1];exact Ba _ _ _ hi
 obtain⟨x1,x2⟩:=J2 S1 x i (by omega);generalize hI:aF S1 x S1 (i:Int)=I at x2;have e:decide ((i:Int)>=0)=true:=decide_eq_true (by omega);have ef:((S.getD i default).farm !=x.farm)=false:=by rw[hf];simp
 have w1:i64.wrap ((i:Int) - 1)=(i:Int) - 1:=fE (by omega) (by omega);have w2:i64.wrap (n - g)=n - g:=fE (by omega) (by omega);have w3:i64.wrap ((S.getD i default).litres - g)=(S.getD i default).litres - g:=fE (by omega) (by omega);have e4:(if n< (S.getD i default).litres then n else(S.getD i default).litres)=g:=hg;have hSS:S.set i ({ right:=(S.getD i default).right,farm:=(S.getD i default).farm,hour:=(S.getD i default).hour,litres:=(S.getD i default).litres - g,rank:=(S.getD i default).rank}:Claim)=S1:=hS1;have hother:∀ j,j<i->S1.getD j default=S.getD j default:=fun j hj=>by rw[<-hS1];exact A_ _ _ _ (by omega)
 unfold b7 bX;simp only[e,Int.toNat_natCast,ef,e4,w1,w2,w3,hSS,hI,cond_true,cond_false];rcases x2 with⟨hI1,hN⟩ | ⟨j,hj,hI2,hjr,hjf⟩
 ·have hd:decide (I>=0)=false:=decide_eq_false (by omega);simp only[hd,cond_false];obtain⟨p2,a2⟩:=p1.app (b0:=b+b0) (z:=zQ (S1.getD i default) x.other g) (by omega) (p1.rk (S1.getD i default) (u5 S1 default (by omega))) (p1.hr (S1.getD i default) (u5 S1 default (by omega))) (by show 0<=g/\g<=b+b0;omega) fun y hy'=>hN y hy';refine⟨fun _=>⟨⟨by omega,by omega⟩,fun _=>⟨⟨by omega,by omega⟩,⟨by omega,by omega⟩,⟨by omega,by omega⟩,x1,fun h=>(by cases h),fun _=>⟨⟨by omega,by omega⟩,?_⟩⟩⟩,S1++[zQ (S1.getD i default) x.other g],rfl,p2,?_,?_,fun q hq=>?_,fun r q=>?_⟩
  ·rw[List.length_append];simp only[List.length_cons,List.length_nil];unfold c6;omega
  ·rw[List.length_append];omega
  ·rw[List.length_append];simp only[List.length_cons,List.length_nil];omega
  ·have:(S1++[zQ (S1.getD i default) x.other g]).getD q default=S.getD q default:=by
    rw[List.getD_eq_getElem?_getD,List.getElem?_append_left (by omega),<-List.getD_eq_getElem?_getD,hother q hq]
   rw[this];exact⟨rfl,rfl,fun _=>rfl⟩
  ·rw[a2,a1,g1];show _+(if(S.getD i default).right=r/\x.other=q then g else 0)=_;rw[hf];exact Dx hxo
 ·have hd:decide (I>=0)=true:=decide_eq_true (by omega);have hz:=p1.lit _ (u5 S1 default hj);have w4:i64.wrap ((S1.getD j default).litres+g)=(S1.getD j default).litres+g:=fE (by omega) (by omega);subst hI2;simp only[hd,cond_true,Int.toNat_natCast,w4];obtain⟨p2,a2⟩:=p1.set (b0:=b+b0) hj (by omega) (v:=(S1.getD j default).litres+g) (by omega);refine⟨fun _=>⟨⟨by omega,by omega⟩,fun _=>⟨⟨by omega,by omega⟩,⟨by omega,by omega⟩,⟨by omega,by omega⟩,x1,fun _=>⟨⟨by omega,by omega⟩,by omega,by omega⟩,fun h=>(by cases h)⟩⟩,S1.set j (mD (S1.getD j default) ((S1.getD j default).litres+g)),rfl,p2,?_,?_,fun q hq=>?_,fun r q=>?_⟩
  ·rw[List.length_set];omega
  ·rw[List.length_set];omega
  ·by_cases hjq:j=q
   ·subst hjq;rw[Ba _ _ _ hj,<-hother j hq];exact⟨rfl,rfl,fun e=>absurd (hjf.symm.trans e) hxo⟩
   ·rw[A_ _ _ _ hjq,hother q hq];exact⟨rfl,rfl,fun _=>rfl⟩
  ·rw[a2,a1,hjr,hjf,g1];show _+_+(if(S.getD i default).right=r/\x.other=q then(S1.getD j default).litres+g - (S1.getD j default).litres else 0)=_;rw[hf,show(S1.getD j default).litres+g - (S1.getD j default).litres=g by omega];exact Dx hxo
end
section
variable {ρ:Int->Int}{h b0:Int}
theorem Dy (x:Judgement)(l:List Claim)(hxo:x.other≠x.farm)(hb0:0<=b0/\b0<=4398046511104):∀ (R:List Claim) (c:Nat) (S:List Claim) (n:Int) (k:Nat),R.length<=S.length->
  (∀ j,j<R.length->(S.getD j default).right=(R.reverse.getD j default).right/\(S.getD j default).farm=(R.reverse.getD j default).farm/\((R.reverse.getD j default).farm=x.farm->(S.getD j default).litres=(R.reverse.getD j default).litres))->
  Pile ρ h ((c:Int)*b0) S->0<=n->n<4611686018427387904->ol b0 R->c+R.length<=16384->S.length+R.length<=32768->
  okI (bX x l) (b7 x l) (R.length+1) k ((R.length:Int) - 1,S,n)/\∃ S',an (bX x l) (R.length+1) k ((R.length:Int) - 1,S,n)=.inl S'/\Pile ρ h (((c+R.length:Nat):Int)*b0) S'/\S'.length<=S.length+R.length/\
   ∀ r q,amt S' r q=amt S r q+(if q=x.other then gn x.farm R n r else 0) - (if q=x.farm then gn x.farm R n r else 0)
 | [],c,S,n,k,_,_,p,h0,h1,_,_,_=>by
  have e:decide (((0:Nat):Int) - 1>=0)=false:=decide_eq_false (by omega);simp only[List.length_nil,okI,an,bX,b7,e,cond_false];refine⟨⟨fun h=>(by cases h),fun s h=>(by cases h)⟩,S,rfl,p,Nat.le_refl _,fun r q=>?_⟩;simp[gn]
 |y::R,c,S,n,k,hl,hS,p,h0,h1,hR,hc,hL=>by
  simp only[List.length_cons]at hl hc hL;have hy:=hR y (by simp);have hR':ol b0 R:=fun z hz=>hR z (by simp[hz]);have hlast:(y::R).reverse.getD R.length default=y:=by rw[List.reverse_cons];exact fK R.reverse y default [] (by simp)
  have hprev:∀ j,j<R.length->(y::R).reverse.getD j default=R.reverse.getD j default:=fun j hj=>by
   rw[List.reverse_cons,List.getD_eq_getElem?_getD,List.getElem?_append_left (by simpa using hj),<-List.getD_eq_getElem?_getD]
  obtain⟨s1,s2,s3⟩:=hS R.length (by simp);rw[hlast]at s1 s2 s3;have hi:(((y::R).length:Nat):Int) - 1=(R.length:Int):=by simp
  have e1:((c+1:Nat):Int)*b0=(c:Int)*b0+b0:=Sj c b0;have hcb:0<=(c:Int)*b0/\(c:Int)*b0<=72057594037927936:=by
   refine⟨Int.mul_nonneg (by omega) hb0.1,?_⟩;have h2:(c:Int)*b0<=16384*b0:=Int.mul_le_mul_of_nonneg_right (by omega) hb0.1;omega
  rw[hi];simp only[List.length_cons];rw[okI,an,show c+(R.length+1)=c+1+R.length by omega];by_cases hf:y.farm=x.farm
  ·obtain⟨t1,S2,t2,t3,t4,t5,t6,t7⟩:=MP (k:=k) x l (i:=R.length) (n:=n) ⟨hcb.1,by omega⟩ hb0.1 p (by omega) (by rw[s2,hf]) hxo ⟨h0,h1⟩ (by rw[s3 hf];exact hy.2) (by omega);have hm:=p_ (a:=n) (b:=(S.getD R.length default).litres);have hyl:=s3 hf;rw[hyl]at t2 t7 hm;obtain⟨q1,S',q2,q3,q4,q5⟩:=Dy x l hxo hb0 R (c+1) S2 (n - bN n y.litres) (k+1) (by omega) (fun j hj=>by
    obtain⟨u1,u2,u3⟩:=t6 j hj;obtain⟨v1,v2,v3⟩:=hS j (by simp only[List.length_cons];omega);rw[hprev j hj]at v1 v2 v3;exact⟨u1.trans v1,u2.trans v2,fun e=>(u3 (v2.trans e)).trans (v3 e)⟩) (by rw[e1];exact t3) (by omega) (by omega) hR' (by omega) (by omega)
   rw[t2];refine⟨⟨t1,fun s hs=>by cases hs;exact q1⟩,S',q2,q3,by omega,fun r q=>?_⟩;rw[q5,t7,gn,if_pos hf,s1];by_cases hr:y.right=r
   ·simp only[hr,true_and,if_true]
    repeat' split
    all_goals omega
   ·simp only[hr,false_and,if_false]
    repeat' split
    all_goals omega
  ·have e:decide ((R.length:Int)>=0)=true:=decide_eq_true (by omega);have ef:((S.getD R.length default).farm !=x.farm)=true:=by rw[s2];simpa using hf
   have w1:i64.wrap ((R.length:Int) - 1)=(R.length:Int) - 1:=fE (by omega) (by omega);have hp2:Pile ρ h (((c+1:Nat):Int)*b0) S:=⟨p.d,p.rk,p.hr,fun z hz=>by rw[e1];have:=p.lit z hz;omega⟩;obtain⟨q1,S',q2,q3,q4,q5⟩:=Dy x l hxo hb0 R (c+1) S n (k+1) (by omega) (fun j hj=>by
    have:=hS j (by simp only[List.length_cons];omega)
    rwa[hprev j hj]at this) hp2 h0 h1 hR' (by omega) (by omega)
   simp only[bX,b7,e,Int.toNat_natCast,ef,w1,cond_true];refine⟨⟨fun _=>⟨⟨by omega,by omega⟩,fun h=>(by cases h)⟩,fun s hs=>by cases hs;exact q1⟩,S',q2,q3,by omega,fun r q=>?_⟩;rw[q5,gn,if_neg hf]
end
section
variable {ρ:Int->Int}{h b0:Int}
theorem Dock.pile {l:List Claim}(d:Dock ρ h l)(hb:ol b0 l):Pile ρ h b0 l:=by
 refine⟨?_,d.rk,d.hr,hb⟩;unfold Im;rw[List.pairwise_iff_getElem];intro i j hi hj hij e;have:=List.pairwise_iff_getElem.1 d.s i j hi hj hij;exact J0 this (d.rk _ (List.getElem_mem hi)) (d.rk _ (List.getElem_mem hj)) ⟨e.1.symm,e.2.symm⟩
theorem Lt (x:Judgement)(l:List Claim)(hxo:x.other≠x.farm)(hb0:0<=b0/\b0<=4398046511104)(d:Dock ρ h l)(hb:ol b0 l)(hl:l.length<=8192)(h0:0<=x.n)(h1:x.n<4611686018427387904):
  (cX x l/\cJ (cm x l)/\su l x.farm x.other x.n)/\du (cm x l)=jR l x.farm x.other x.n/\Dock ρ h (jR l x.farm x.other x.n):=by
 have hbr:ol b0 l.reverse:=fun y hy=>hb y (by simpa using hy);have hp:Pile ρ h (((1:Nat):Int)*b0) l:=by
  have:=d.pile hb
  rwa[show((1:Nat):Int)*b0=b0 by simp]
 obtain⟨q1,S',q2,q3,q4,q5⟩:=Dy x l hxo hb0 l.reverse 1 l x.n 0 (by simp) (fun j _=>by rw[List.reverse_reverse];exact⟨rfl,rfl,fun _=>rfl⟩) hp h0 h1 hbr (by rw[List.length_reverse];omega) (by rw[List.length_reverse];omega);rw[List.length_reverse]at q1 q2 q4;have w:i64.wrap ((l.length:Int) - 1)=(l.length:Int) - 1:=fE (by omega) (by omega);have eG:cm x l=S':=by unfold cm;rw[w,q2]
 have gp:cX x l:=by
  unfold cX;rw[w,q2];exact fun _=>⟨q1,fun z hz=>by cases hz⟩
 obtain⟨t1,t2,t3⟩:=MO q3 (by omega);obtain⟨r1,r2⟩:=xn l x.farm x.other x.n hb0 hl h0 h1 hb;have dn:Dock ρ h ([]:List Claim):=⟨List.Pairwise.nil,(fun y hy=>by cases hy),(fun y hy=>by cases hy),(fun y hy=>by cases hy)⟩;have gnil:Gift ρ h x.other ([]:List Claim):=⟨(fun y hy=>by cases hy),(fun y hy=>by cases hy),(fun y hy=>by cases hy),(fun y hy=>by cases hy)⟩;obtain⟨v1,v2,v3⟩:=Gr (f:=x.farm) (o:=x.other) l.reverse x.n [] [] h0 (fun y hy=>by
  have hy':y∈l:=by simpa using hy
  exact⟨d.rk y hy',d.hr y hy',(hb y hy').1⟩) dn gnil
 have v4:=PI (f:=x.farm) (o:=x.other) l.reverse x.n [] [] h0 fun y hy=>(hbr y hy).1;obtain⟨z1,z2⟩:=Gs _ _ v1 v2;rw[eG,r2];refine⟨⟨gp,t1,r1⟩,AK t2 z1 fun r q=>?_,z1⟩;rw[t3,q5,z2];have a1:=v3 r q;rw[v4,Dw l.reverse_perm]at a1;have a2:amt (gv x.farm x.other l.reverse x.n [] []).2 r q=if q=x.other then gn x.farm l.reverse x.n r else 0:=by
  by_cases hq:q=x.other
  ·subst hq;rw[if_pos rfl,v4];simp[amt]
  ·rw[if_neg hq];exact zP fun y hy e=>hq (by rw[<-e.2,v2.fm y hy])
 rw[a2];simp only[amt]at a1;by_cases hq:q=x.farm
 ·rw[if_pos hq]at a1 |-;omega
 ·rw[if_neg hq]at a1 |-;simp only[ite_self,if_neg hq]at a1;omega
end
end Go.Sx
end
