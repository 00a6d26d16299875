/- Part of the proof that the law ClaimsSpec returns true and leaves its arguments as they were, for all arguments of bulk at most 1048576 (the Upto form). -/
import Derived.Test.YtgdkdhdlfdcefaaGreatC108
set_option linter.all false
set_option maxHeartbeats 4000000
set_option maxRecDepth 100000
section
namespace Go.Sx
open Go.Proofs
open IntKind (i64)
theorem cJ {l0:List Nat}(a0:JL l0){p:Prop}(h:JL l0→p:=by intro ja;simp only[go_sem,Nat.reduceBEq,Nat.reduceLeDiff,Nat.reduceLT,decide_true,Nat.reduceAdd,Nat.reduceSub,Nat.reduceMul,Int.reduceLE,Int.reduceLT,Int.reduceToNat,Int.reduceNeg,reduceCtorEq];all_goals exact zP ja):p:=h a0
def tn (d:District):Bool:=((((((decide ((d.reaches.length:Int)≤100))&&(decide ((d.farms.length:Int)≤700)))&&(decide ((d.crops.length:Int)≤100)))&&(decide ((d.rights.length:Int)≤300)))&&(decide ((d.duties.length:Int)≤300)))&&(decide ((d.wells.length:Int)≤100)))
@[go_sem] def xE:List SV→Option Con:=(pD .district fun d=>(pE (.det True (.v (.bool (tn d))))))
theorem Df:FnOk Tryz.prog 33 xE:=by
 have hG:ConsOk Tryz.prog (mkG [] []):=ap cg0 cg0;refine aL [.o] mixed aj hG (fn:=Tryz.f33) (c:=ae Tryz.f33) kr kr kr kr (aI fun d=>(aw (fun hp=>?_)));dsimp only[av]at hp;refine⟨nbl rfl,L0,ag _,?_⟩
 ·unfold ae Tryz.f33;try unfold tn
  exact zq1
def aA (n:Int)(lo:Int)(hi:Int):Bool:=((decide (n≥lo))&&(decide (n≤hi)))
@[go_sem] def gK:List SV→Option Con:=(pI fun n=>(pI fun lo=>(pI fun hi=>(pE (.det True (.v (.bool (aA n lo hi))))))))
theorem ii:FnOk Tryz.prog 99 gK:=by
 have hG:ConsOk Tryz.prog (mkG [] []):=ap cg0 cg0;refine aL [.o] mixed aj hG (fn:=Tryz.f99) (c:=ae Tryz.f99) kr kr kr kr (aM fun n=>(aM fun lo=>(aM fun hi=>(aw (fun hp=>?_)))));dsimp only[av]at hp;refine⟨nbl rfl,L0,ag _,?_⟩
 ·unfold ae Tryz.f99;try unfold aA
  exact zq1
@[go_sem] def fL (b:Int)(k_0:Nat)(s_0:Int×Int):Int⊕(Int×Int):=(bif(decide (s_0.2 > 0))then .inr (s_0.2,(Int.tmod s_0.1 s_0.2))else .inl s_0.1)
def ky (b:Int)(k_0:Nat)(s_0:Int×Int):Prop:=((decide (s_0.2 > 0))=true→s_0.2≠0)
def jS (a:Int)(b:Int):Int:=(match am (fL b) (Int.toNat b+1) 0 (a,b)with| .inl x_0_0=>x_0_0| .inr s_0=>default)
def kh (a:Int)(b:Int):Prop:=(okI (fL b) (ky b) (Int.toNat b+1) 0 (a,b)∧(∀ z_,am (fL b) (Int.toNat b+1) 0 (a,b)≠ .inr z_))
@[go_sem] def rD:List SV→Option Con:=(pI fun a=>(pI fun b=>(pE (.det (kh a b) (.v (.int .i64 (jS a b)))))))
theorem wY:FnOk Tryz.prog 174 rD:=by
 have hG:ConsOk Tryz.prog (mkG [] []):=ap cg0 cg0;refine aL [.o] mixed aj hG (fn:=Tryz.f174) (c:=ae Tryz.f174) kr kr kr kr (aM fun a=>(aM fun b=>(aw (fun hp=>?_))));dsimp only[av]at hp;unfold kh at hp;refine⟨nbl rfl,(fun id st=>bif Nat.beq id 0 then some (LCV (ρ:=Int) (σ:=(Int×Int)) 0 [] [] (fun k_0 s_0=>⟨[(0,.v (.int .i64 s_0.1)),(1,.v (.int .i64 s_0.2))],[]⟩) (fL b) (ky b) (Int.toNat b+1) (a,b) (fun _=>.normal) (fun x_0_0=>⟨[(0,.v (.int .i64 x_0_0))],[]⟩) st)else none),?_,?_⟩
 ·unfold ae Tryz.f174;simp only[al,true_and,and_true]
  ·refine dR mixed aj hG kr (fun _=>rfl) fun k_0 s_0 hq0=>⟨L0,ag _,?_⟩
   ·unfold ky at hq0;exact cJ (jl [])
 ·unfold ae Tryz.f174;try unfold jS
  exact zq1
def ma (n:Int):Int:=(bif(decide (n<0))then(i64.wrap (0 - n))else n)
@[go_sem] def vP:List SV→Option Con:=(pI fun n=>(pE (.det True (.v (.int .i64 (ma n))))))
theorem A5:FnOk Tryz.prog 175 vP:=by
 have hG:ConsOk Tryz.prog (mkG [] []):=ap cg0 cg0;refine aL [.o] mixed aj hG (fn:=Tryz.f175) (c:=ae Tryz.f175) kr kr kr kr (aM fun n=>(aw (fun hp=>?_)));dsimp only[av]at hp;refine⟨nbl rfl,L0,ag _,?_⟩
 ·unfold ae Tryz.f175;try unfold ma
  exact zq1
def cX (a:Ratio):Bool:=(((((decide (a.d≥1))&&(decide (a.d≤1073741824)))&&(decide (a.n≥(-1073741824))))&&(decide (a.n≤1073741824)))&&((jS (ma a.n) a.d) ==1))
def fF (a:Ratio):Prop:=(((((decide (a.d≥1))&&(decide (a.d≤1073741824)))&&(decide (a.n≥(-1073741824))))&&(decide (a.n≤1073741824)))=true→(kh (ma a.n) a.d))
@[go_sem] def jT:List SV→Option Con:=(pD .ratio fun a=>(pE (.det (fF a) (.v (.bool (cX a))))))
theorem lp:FnOk Tryz.prog 160 jT:=by
 have hG:ConsOk Tryz.prog (mkG [(174,rD),(175,vP)] []):=ap (cgc wY (cgc A5 cg0)) cg0;refine aL [.o] mixed aj hG (fn:=Tryz.f160) (c:=ae Tryz.f160) kr kr kr kr (aI fun a=>(aw (fun hp=>?_)));dsimp only[av]at hp;unfold fF at hp;refine⟨nbl rfl,L0,ag _,?_⟩
 ·unfold ae Tryz.f160;try unfold cX
  exact zq1
def gj (a:Ratio):Int:=(bif(!(cX a))then 120 else 0)
def mC (a:Ratio):Prop:=(fF a)
@[go_sem] def t6:List SV→Option Con:=(pD .ratio fun a=>(pE (.det (mC a) (.v (.int .i64 (gj a))))))
theorem zU:FnOk Tryz.prog 178 t6:=by
 have hG:ConsOk Tryz.prog (mkG [(160,jT)] []):=ap (cgc lp cg0) cg0;refine aL [.o] mixed aj hG (fn:=Tryz.f178) (c:=ae Tryz.f178) kr kr kr kr (aI fun a=>(aw (fun hp=>?_)));dsimp only[av]at hp;unfold mC at hp;refine⟨nbl rfl,L0,ag _,?_⟩
 ·unfold ae Tryz.f178;try unfold gj
  exact zq1
def oP (a:Ratio)(b:Ratio):Bool:=(decide ((i64.wrap (a.n*b.d)) < (i64.wrap (b.n*a.d))))
@[go_sem] def vQ:List SV→Option Con:=(pD .ratio fun a=>(pD .ratio fun b=>(pE (.det True (.v (.bool (oP a b)))))))
theorem A6:FnOk Tryz.prog 184 vQ:=by
 have hG:ConsOk Tryz.prog (mkG [] []):=ap cg0 cg0;refine aL [.o] mixed aj hG (fn:=Tryz.f184) (c:=ae Tryz.f184) kr kr kr kr (aI fun a=>(aI fun b=>(aw (fun hp=>?_))));dsimp only[av]at hp;refine⟨nbl rfl,L0,ag _,?_⟩
 ·unfold ae Tryz.f184;try unfold oP
  exact zq1
def g8 (a:Ratio)(b:Ratio):Bool:=((cX a)&&(cX b))
def lr (a:Ratio)(b:Ratio):Prop:=((fF a)∧((cX a)=true→(fF b)))
@[go_sem] def qT:List SV→Option Con:=(pD .ratio fun a=>(pD .ratio fun b=>(pE (.det (lr a b) (.v (.bool (g8 a b)))))))
theorem t7:FnOk Tryz.prog 176 qT:=by
 have hG:ConsOk Tryz.prog (mkG [(160,jT)] []):=ap (cgc lp cg0) cg0;refine aL [.o] mixed aj hG (fn:=Tryz.f176) (c:=ae Tryz.f176) kr kr kr kr (aI fun a=>(aI fun b=>(aw (fun hp=>?_))));dsimp only[av]at hp;unfold lr at hp;refine⟨nbl rfl,L0,ag _,?_⟩
 ·unfold ae Tryz.f176;try unfold g8
  exact zq1
def mb (a:Ratio)(b:Ratio):Int×Int:=(bif(!(g8 a b))then(0,120)else(bif(oP a b)then((-1),0)else(bif(oP b a)then(1,0)else(0,0))))
def sw (a:Ratio)(b:Ratio):Prop:=(lr a b)
@[go_sem] def xF:List SV→Option Con:=(pD .ratio fun a=>(pD .ratio fun b=>(pE (.det (sw a b) (.tup [.v (.int .i64 ((mb a b).1)),.v (.int .i64 ((mb a b).2))])))))
theorem Dg:FnOk Tryz.prog 179 xF:=by
 have hG:ConsOk Tryz.prog (mkG [(176,qT),(184,vQ)] []):=ap (cgc t7 (cgc A6 cg0)) cg0;refine aL [.o,.o] mixed aj hG (fn:=Tryz.f179) (c:=ae Tryz.f179) kr kr kr kr (aI fun a=>(aI fun b=>(aw (fun hp=>?_))));dsimp only[av]at hp;unfold sw at hp;refine⟨nbl rfl,L0,ag _,?_⟩
 ·unfold ae Tryz.f179;try unfold mb
  exact zq1
@[go_sem] def fG (a1:Int)(k_0:Nat)(s_0:Int×Int):(Int×Int)⊕(Int×Int):=(bif(decide (s_0.2< (-1)))then .inr (s_0.2,(Int.tmod s_0.1 s_0.2))else .inl (s_0.1,s_0.2))
def kl (a1:Int)(k_0:Nat)(s_0:Int×Int):Prop:=((decide (s_0.2< (-1)))=true→s_0.2≠0)
def kz (a0:Int)(a1:Int):Ratio×Int:=(bif(a1==0)then(({ n:=0,d:=0}:Ratio),120)else(match am (fG a1) (Int.natAbs a1+2) 0 ((bif(decide (a0 > 0))then(i64.wrap (0 - a0))else a0),(bif(decide (a1 > 0))then(i64.wrap (0 - a1))else a1))with| .inl x_0_0=>(bif(x_0_0.2==(-1))then(bif((decide ((bif(decide (a0 > 0))then(i64.wrap (0 - a0))else a0) < (-1073741824))) ||(decide ((bif(decide (a1 > 0))then(i64.wrap (0 - a1))else a1) < (-1073741824))))then(({ n:=0,d:=0}:Ratio),2)else(bif((decide ((i64.wrap (Int.tdiv (bif(decide (a0 > 0))then(i64.wrap (0 - a0))else a0) (-1))) > 1073741824)) ||(decide ((i64.wrap (Int.tdiv (bif(decide (a1 > 0))then(i64.wrap (0 - a1))else a1) (-1))) > 1073741824)))then(({ n:=0,d:=0}:Ratio),2)else(bif((decide (a0<0)) !=(decide (a1<0)))then(({ n:=(i64.wrap (0 - (i64.wrap (Int.tdiv (bif(decide (a0 > 0))then(i64.wrap (0 - a0))else a0) (-1))))),d:=(i64.wrap (Int.tdiv (bif(decide (a1 > 0))then(i64.wrap (0 - a1))else a1) (-1)))}:Ratio),0)else(({ n:=(i64.wrap (Int.tdiv (bif(decide (a0 > 0))then(i64.wrap (0 - a0))else a0) (-1))),d:=(i64.wrap (Int.tdiv (bif(decide (a1 > 0))then(i64.wrap (0 - a1))else a1) (-1)))}:Ratio),0))))else(bif((x_0_0.1==(-1))&&((decide ((bif(decide (a0 > 0))then(i64.wrap (0 - a0))else a0) < (-1073741824))) ||(decide ((bif(decide (a1 > 0))then(i64.wrap (0 - a1))else a1) < (-1073741824)))))then(({ n:=0,d:=0}:Ratio),2)else(bif((decide ((i64.wrap (Int.tdiv (bif(decide (a0 > 0))then(i64.wrap (0 - a0))else a0) x_0_0.1)) > 1073741824)) ||(decide ((i64.wrap (Int.tdiv (bif(decide (a1 > 0))then(i64.wrap (0 - a1))else a1) x_0_0.1)) > 1073741824)))then(({ n:=0,d:=0}:Ratio),2)else(bif((decide (a0<0)) !=(decide (a1<0)))then(({ n:=(i64.wrap (0 - (i64.wrap (Int.tdiv (bif(decide (a0 > 0))then(i64.wrap (0 - a0))else a0) x_0_0.1)))),d:=(i64.wrap (Int.tdiv (bif(decide (a1 > 0))then(i64.wrap (0 - a1))else a1) x_0_0.1))}:Ratio),0)else(({ n:=(i64.wrap (Int.tdiv (bif(decide (a0 > 0))then(i64.wrap (0 - a0))else a0) x_0_0.1)),d:=(i64.wrap (Int.tdiv (bif(decide (a1 > 0))then(i64.wrap (0 - a1))else a1) x_0_0.1))}:Ratio),0))))) | .inr s_0=>default))
def lu (a0:Int)(a1:Int):Prop:=((a1==0)=false→(okI (fG a1) (kl a1) (Int.natAbs a1+2) 0 ((bif(decide (a0 > 0))then(i64.wrap (0 - a0))else a0),(bif(decide (a1 > 0))then(i64.wrap (0 - a1))else a1))∧(∀ z_,am (fG a1) (Int.natAbs a1+2) 0 ((bif(decide (a0 > 0))then(i64.wrap (0 - a0))else a0),(bif(decide (a1 > 0))then(i64.wrap (0 - a1))else a1))≠ .inr z_)∧(∀ x_0_0,am (fG a1) (Int.natAbs a1+2) 0 ((bif(decide (a0 > 0))then(i64.wrap (0 - a0))else a0),(bif(decide (a1 > 0))then(i64.wrap (0 - a1))else a1))=.inl x_0_0→(((x_0_0.2==(-1))=true→(((decide ((bif(decide (a0 > 0))then(i64.wrap (0 - a0))else a0) < (-1073741824))) ||(decide ((bif(decide (a1 > 0))then(i64.wrap (0 - a1))else a1) < (-1073741824))))=false→((-1)≠0∧(-1)≠0)))∧((x_0_0.2==(-1))=false→(((x_0_0.1==(-1))&&((decide ((bif(decide (a0 > 0))then(i64.wrap (0 - a0))else a0) < (-1073741824))) ||(decide ((bif(decide (a1 > 0))then(i64.wrap (0 - a1))else a1) < (-1073741824)))))=false→(x_0_0.1≠0∧x_0_0.1≠0)))))))
@[go_sem] def vR:List SV→Option Con:=(pI fun a0=>(pI fun a1=>(pE (.det (lu a0 a1) (.tup [.agg (cellsOf .ratio ((kz a0 a1).1)),.v (.int .i64 ((kz a0 a1).2))])))))
theorem A7:FnOk Tryz.prog 177 vR:=by
 have hG:ConsOk Tryz.prog (mkG [] []):=ap cg0 cg0;refine aL [.st .ratio,.o] mixed aj hG (fn:=Tryz.f177) (c:=ae Tryz.f177) kr kr kr kr (aM fun a0=>(aM fun a1=>(aw (fun hp=>?_))));dsimp only[av]at hp;unfold lu at hp;refine⟨nbl rfl,(fun id st=>bif Nat.beq id 1000016 then some (JC (⟨[(0,.v (.int .i64 a0)),(1,.v (.int .i64 a1)),(4,.ptr 0 0),(6,.v (.int .i64 (bif(decide (a0 > 0))then(i64.wrap (0 - a0))else a0)))],[.cells [.v (.int .i64 0),.v (.int .i64 0)]]⟩))else bif Nat.beq id 1000021 then some (JC (⟨[(0,.v (.int .i64 a0)),(1,.v (.int .i64 a1)),(4,.ptr 0 0),(6,.v (.int .i64 (bif(decide (a0 > 0))then(i64.wrap (0 - a0))else a0))),(7,.v (.int .i64 (bif(decide (a1 > 0))then(i64.wrap (0 - a1))else a1)))],[.cells [.v (.int .i64 0),.v (.int .i64 0)]]⟩))else bif Nat.beq id 0 then some (LCV (ρ:=(Int×Int)) (σ:=(Int×Int)) 1 [] [0] (fun k_0 s_0=>⟨[(0,.v (.int .i64 a0)),(1,.v (.int .i64 a1)),(4,.ptr 0 0),(6,.v (.int .i64 (bif(decide (a0 > 0))then(i64.wrap (0 - a0))else a0))),(7,.v (.int .i64 (bif(decide (a1 > 0))then(i64.wrap (0 - a1))else a1))),(8,.v (.int .i64 s_0.1)),(9,.v (.int .i64 s_0.2))],[.cells [.v (.int .i64 0),.v (.int .i64 0)]]⟩) (fG a1) (kl a1) (Int.natAbs a1+2) ((bif(decide (a0 > 0))then(i64.wrap (0 - a0))else a0),(bif(decide (a1 > 0))then(i64.wrap (0 - a1))else a1)) (fun _=>.normal) (fun x_0_0=>⟨[(0,.v (.int .i64 a0)),(1,.v (.int .i64 a1)),(4,.ptr 0 0),(6,.v (.int .i64 (bif(decide (a0 > 0))then(i64.wrap (0 - a0))else a0))),(7,.v (.int .i64 (bif(decide (a1 > 0))then(i64.wrap (0 - a1))else a1))),(8,.v (.int .i64 x_0_0.1)),(9,.v (.int .i64 x_0_0.2))],[.cells [.v (.int .i64 0),.v (.int .i64 0)]]⟩) st)else none),?_,?_⟩
 ·unfold ae Tryz.f177;simp only[al,true_and,and_true]
  ·refine dR mixed aj hG kr (fun _=>rfl) fun k_0 s_0 hq0=>⟨L0,ag _,?_⟩
   ·unfold kl at hq0;exact cJ (jl [0])
 ·unfold ae Tryz.f177;try unfold kz
  exact zq1
def kM (a:Ratio)(b:Ratio):Ratio×Int:=(bif(!(g8 a b))then(({ n:=0,d:=0}:Ratio),120)else(((kz (i64.wrap ((i64.wrap (a.n*b.d))+(i64.wrap (b.n*a.d)))) (i64.wrap (a.d*b.d))).1),(kz (i64.wrap ((i64.wrap (a.n*b.d))+(i64.wrap (b.n*a.d)))) (i64.wrap (a.d*b.d))).2))
def nc (a:Ratio)(b:Ratio):Prop:=((lr a b)∧((!(g8 a b))=false→(lu (i64.wrap ((i64.wrap (a.n*b.d))+(i64.wrap (b.n*a.d)))) (i64.wrap (a.d*b.d)))))
@[go_sem] def xG:List SV→Option Con:=(pD .ratio fun a=>(pD .ratio fun b=>(pE (.det (nc a b) (.tup [.agg (cellsOf .ratio ((kM a b).1)),.v (.int .i64 ((kM a b).2))])))))
theorem Dh:FnOk Tryz.prog 161 xG:=by
 have hG:ConsOk Tryz.prog (mkG [(176,qT),(177,vR)] []):=ap (cgc t7 (cgc A7 cg0)) cg0;refine aL [.st .ratio,.o] mixed aj hG (fn:=Tryz.f161) (c:=ae Tryz.f161) kr kr kr kr (aI fun a=>(aI fun b=>(aw (fun hp=>?_))));dsimp only[av]at hp;unfold nc at hp;refine⟨nbl rfl,L0,ag _,?_⟩
 ·unfold ae Tryz.f161;try unfold kM
  exact zq1
def kO (n:Int)(d:Int):Int:=(bif(decide ((Int.tmod n d) <0))then(i64.wrap ((i64.wrap (Int.tdiv n d)) - 1))else(i64.wrap (Int.tdiv n d)))
def mD (n:Int)(d:Int):Prop:=(d≠0∧d≠0)
@[go_sem] def t8:List SV→Option Con:=(pI fun n=>(pI fun d=>(pE (.det (mD n d) (.v (.int .i64 (kO n d)))))))
theorem zV:FnOk Tryz.prog 162 t8:=by
 have hG:ConsOk Tryz.prog (mkG [] []):=ap cg0 cg0;refine aL [.o] mixed aj hG (fn:=Tryz.f162) (c:=ae Tryz.f162) kr kr kr kr (aM fun n=>(aM fun d=>(aw (fun hp=>?_))));dsimp only[av]at hp;unfold mD at hp;refine⟨nbl rfl,L0,ag _,?_⟩
 ·unfold ae Tryz.f162;try unfold kO
  exact zq1
def d6 (a:Ratio)(n:Int):Int×Int×Int:=(bif(!(cX a))then(0,0,120)else(bif((decide (n< (-1073741824))) ||(decide (n > 1073741824)))then(0,0,1)else((kO (i64.wrap (a.n*n)) a.d),(i64.wrap (0 - (kO (i64.wrap ((i64.wrap (0 - a.n))*n)) a.d))),0)))
def jU (a:Ratio)(n:Int):Prop:=((fF a)∧((!(cX a))=false→(((decide (n< (-1073741824))) ||(decide (n > 1073741824)))=false→((mD (i64.wrap (a.n*n)) a.d)∧(mD (i64.wrap ((i64.wrap (0 - a.n))*n)) a.d)))))
@[go_sem] def t_:List SV→Option Con:=(pD .ratio fun a=>(pI fun n=>(pE (.det (jU a n) (.tup [.v (.int .i64 ((d6 a n).1)),.v (.int .i64 ((d6 a n).2.1)),.v (.int .i64 ((d6 a n).2.2))])))))
theorem zW:FnOk Tryz.prog 135 t_:=by
 have hG:ConsOk Tryz.prog (mkG [(160,jT),(162,t8)] []):=ap (cgc lp (cgc zV cg0)) cg0;refine aL [.o,.o,.o] mixed aj hG (fn:=Tryz.f135) (c:=ae Tryz.f135) kr kr kr kr (aI fun a=>(aM fun n=>(aw (fun hp=>?_))));dsimp only[av]at hp;unfold jU at hp;refine⟨nbl rfl,L0,ag _,?_⟩
 ·unfold ae Tryz.f135;try unfold d6
  exact zq1
def eV (x:Ratio×Ratio):Bool:=(bif(((gj x.1) !=0) ||((gj x.2) !=0))then false else(((decide (x.1.n≥0))&&(decide ((mb x.1 x.2).1≤0)))&&(decide (x.2.n≤x.2.d))))
def lw (x:Ratio×Ratio):Prop:=((mC x.1)∧((((gj x.1) !=0)=false→(mC x.2))∧((((gj x.1) !=0) ||((gj x.2) !=0))=false→(sw x.1 x.2))))
@[go_sem] def sA:List SV→Option Con:=(pD .ratio2 fun x=>(pE (.det (lw x) (.v (.bool (eV x))))))
theorem yh:FnOk Tryz.prog 164 sA:=by
 have hG:ConsOk Tryz.prog (mkG [(178,t6),(179,xF)] []):=ap (cgc zU (cgc Dg cg0)) cg0;refine aL [.o] mixed aj hG (fn:=Tryz.f164) (c:=ae Tryz.f164) kr kr kr kr (aI fun x=>(aw (fun hp=>?_)));dsimp only[av]at hp;unfold lw at hp;refine⟨nbl rfl,L0,ag _,?_⟩
 ·unfold ae Tryz.f164;try unfold eV
  exact zq1
def nf (x:Reach):Bool:=(bif(((!(aA x.delay 1 16)) ||(!(aA x.cap 0 1073741824))) ||(!(aA x.bank 0 1099511627776)))then false else(bif(((!(aA x.siphon 0 (if x.bank<x.cap then x.bank else x.cap))) ||(!(aA x.evap.lo 0 x.evap.hi))) ||(decide (x.evap.hi > 1073741824)))then false else(eV x.seep)))
def mE (x:Reach):Prop:=((((!(aA x.delay 1 16)) ||(!(aA x.cap 0 1073741824))) ||(!(aA x.bank 0 1099511627776)))=false→((((!(aA x.siphon 0 (if x.bank<x.cap then x.bank else x.cap))) ||(!(aA x.evap.lo 0 x.evap.hi))) ||(decide (x.evap.hi > 1073741824)))=false→(lw x.seep)))
@[go_sem] def ua:List SV→Option Con:=(pD .reach fun x=>(pE (.det (mE x) (.v (.bool (nf x))))))
theorem zX:FnOk Tryz.prog 137 ua:=by
 have hG:ConsOk Tryz.prog (mkG [(99,gK),(164,sA)] []):=ap (cgc ii (cgc yh cg0)) cg0;refine aL [.o] mixed aj hG (fn:=Tryz.f137) (c:=ae Tryz.f137) kr kr kr kr (aI fun x=>(aw (fun hp=>?_)));dsimp only[av]at hp;unfold mE at hp;refine⟨nbl rfl,L0,ag _,?_⟩
 ·unfold ae Tryz.f137;try unfold nf
  exact zq1
@[go_sem] def fM (l_:List Reach)(k_0:Nat)(s_0:Unit):Unit⊕Unit:=(bif((((k_0:Int) ==0)&&((l_.getD k_0 (default:Reach)).up !=(-1))) ||((decide ((k_0:Int) > 0))&&(!(aA ((l_.getD k_0 (default:Reach)).up) 0 (i64.wrap ((k_0:Int) - 1))))))then .inl ()else(bif(!(nf (l_.getD k_0 (default:Reach))))then .inl ()else .inr ()))
def kA (l_:List Reach)(k_0:Nat)(s_0:Unit):Prop:=(l_.length≤aU→(((((k_0:Int) ==0)&&((l_.getD k_0 (default:Reach)).up !=(-1))) ||((decide ((k_0:Int) > 0))&&(!(aA ((l_.getD k_0 (default:Reach)).up) 0 (i64.wrap ((k_0:Int) - 1))))))=false→(mE (l_.getD k_0 (default:Reach)))))
def jV (l_:List Reach):Bool:=(match am (fM l_) l_.length 0 ()with| .inl x_0_0=>false| .inr s_0=>(decide ((l_.length:Int) > 0)))
def nM (l_:List Reach):Prop:=okI (fM l_) (kA l_) l_.length 0 ()
@[go_sem] def rE:List SV→Option Con:=(pR .reach fun l_=>(pE (.det (nM l_) (.v (.bool (jV l_))))))
theorem wZ:FnOk Tryz.prog 100 rE:=by
 have hG:ConsOk Tryz.prog (mkG [(99,gK),(137,ua)] []):=ap (cgc ii (cgc zX cg0)) cg0;refine aL [.o] mixed aj hG (fn:=Tryz.f100) (c:=ae Tryz.f100) kr kr kr kr (cI fun l_=>(aw (fun hp=>?_)));dsimp only[av]at hp;unfold nM at hp;refine⟨nbl rfl,(fun id st=>bif Nat.beq id 0 then some (LCR (ρ:=Unit) (σ:=Unit) 0 [] [] (fun k_0 s_0=>⟨[(0,.rs .reach l_),(3,.v (.int .i64 (k_0:Int)))],[]⟩) (fM l_) (kA l_) l_.length () (True) (fun _=>.ret) (fun x_0_0=>⟨[(2,.v (.bool false))],[]⟩) st)else none),?_,?_⟩
 ·unfold ae Tryz.f100;simp only[al,true_and,and_true]
  ·refine c7 (l_.length≤aU) mixed aj hG kr (fun _=>rfl) (l_.length:Int) rfl fK (fun hb0 k_0 s_0 hlt0 hq0 hw hc=>⟨L0,ag _,?_⟩) (fun hb0 s_0 hc=>?_) fun hb0 k_0 s_0=>?_
   ·unfold kA at hq0;try simp only[hw,Int.toNat_natCast]at hq0
    exact bF (jl [])
   ·exact bG (jl [])
   ·exact zq7
 ·unfold ae Tryz.f100;try unfold jV
  exact zq1
@[go_sem] def iW (a0:District)(k_0:Nat)(s_0:Unit):Unit⊕Unit:=(bif(!(aA ((a0.crops.getD k_0 (default:Crop)).need) 0 1048576))then .inl ()else .inr ())
@[go_sem] def iX (a0:District)(k_1:Nat)(s_1:Unit):Unit⊕Unit:=(bif((!(aA ((a0.farms.getD k_1 (default:Farm)).reach) 0 (i64.wrap ((a0.reaches.length:Int) - 1)))) ||(!(aA ((a0.farms.getD k_1 (default:Farm)).area) 0 1048576)))then .inl ()else(bif((((a0.farms.getD k_1 (default:Farm)).area==0)&&((a0.farms.getD k_1 (default:Farm)).crop !=(-1))) ||((decide ((a0.farms.getD k_1 (default:Farm)).area > 0))&&(!(aA ((a0.farms.getD k_1 (default:Farm)).crop) 0 (i64.wrap ((a0.crops.length:Int) - 1))))))then .inl ()else .inr ()))
def nh (a0:District):Bool:=(match am (iW a0) a0.crops.length 0 ()with| .inl x_0_0=>false| .inr s_0=>(match am (iX a0) a0.farms.length 0 ()with| .inl x_1_0=>false| .inr s_1=>true))
@[go_sem] def ub:List SV→Option Con:=(pD .district fun a0=>(pE (.det True (.v (.bool (nh a0))))))
theorem G1 {p:Prop}(h:p:=by simp only[go_sem,Nat.reduceBEq,Nat.reduceLeDiff,Nat.reduceLT,decide_true,Nat.reduceAdd,Nat.reduceSub,Nat.reduceMul,Int.reduceLE,Int.reduceLT,Int.reduceToNat,Int.reduceNeg,reduceCtorEq,hb1]):p:=h
theorem zY:FnOk Tryz.prog 101 ub:=by
 have hG:ConsOk Tryz.prog (mkG [(99,gK)] []):=ap (cgc ii cg0) cg0;refine aL [.o] mixed aj hG (fn:=Tryz.f101) (c:=ae Tryz.f101) kr kr kr kr (aI fun a0=>(aw (fun hp=>?_)));dsimp only[av]at hp;refine⟨nbl rfl,(fun id st=>bif Nat.beq id 0 then some (LCR (ρ:=Unit) (σ:=Unit) 1 [] [0] (fun k_0 s_0=>⟨[(1,.ptr 0 0),(3,.v (.int .i64 (k_0:Int)))],[.cells (cellsOf .district a0)]⟩) (iW a0) pT a0.crops.length () (True) (fun _=>.ret) (fun x_0_0=>⟨[(2,.v (.bool false))],[.dead]⟩) st)else bif Nat.beq id 2 then some (LCR (ρ:=Unit) (σ:=Unit) 1 [] [0] (fun k_1 s_1=>⟨[(1,.ptr 0 0),(4,.v (.int .i64 (k_1:Int)))],[.cells (cellsOf .district a0)]⟩) (iX a0) pT a0.farms.length () (True) (fun _=>.ret) (fun x_1_0=>⟨[(2,.v (.bool false))],[.dead]⟩) st)else none),?_,?_⟩
 ·unfold ae Tryz.f101;simp only[al,true_and,and_true];refine⟨?_,?_⟩
  ·refine c7 (a0.crops.length≤aU) mixed aj hG kr (fun _=>rfl) (a0.crops.length:Int) rfl fK (fun hb0 k_0 s_0 hlt0 _ hw hc=>⟨L0,ag _,?_⟩) (fun hb0 s_0 hc=>?_) fun hb0 k_0 s_0=>?_
   ·exact bF (jl [0])
   ·exact bG (jl [0])
   ·exact zq7
  ·refine c7 (a0.farms.length≤aU) mixed aj hG kr (fun _=>rfl) (a0.farms.length:Int) rfl fK (fun hb1 k_1 s_1 hlt1 _ hw hc=>⟨L0,ag _,?_⟩) (fun hb1 s_1 hc=>?_) fun hb1 k_1 s_1=>?_
   ·exact bF (jl [0])
   ·exact bG (jl [0])
   ·exact G1
 ·unfold ae Tryz.f101;try unfold nh
  exact zq1
def ni (a0:District)(a1:Right):Bool:=(bif((((!(aA a1.farm 0 (i64.wrap ((a0.farms.length:Int) - 1)))) ||(!(aA a1.reach 0 (i64.wrap ((a0.reaches.length:Int) - 1))))) ||(!(aA a1.since 0 a1.to))) ||(decide (a1.to≥a0.hours)))then false else(bif(a1.kind==1)then(((((a1.reach==0)&&(aA a1.rank 0 1048576))&&(aA a1.litres 1 1073741824))&&(aA a1.length 1 a1.every))&&(decide (a1.every≤a0.hours)))else(bif(a1.kind==2)then((((((a1.rank==0)&&(a1.litres==0))&&(a1.every==0))&&(a1.length==0))&&(a1.since==0))&&(a1.to==(i64.wrap (a0.hours - 1))))else(bif(a1.kind==3)then((((a1.rank==0)&&(a1.litres==0))&&(a1.every==0))&&(a1.length==0))else false))))
@[go_sem] def uc:List SV→Option Con:=(pD .district fun a0=>(pD .right fun a1=>(pE (.det True (.v (.bool (ni a0 a1)))))))
theorem zZ:FnOk Tryz.prog 102 uc:=by
 have hG:ConsOk Tryz.prog (mkG [(99,gK)] []):=ap (cgc ii cg0) cg0;refine aL [.o] mixed aj hG (fn:=Tryz.f102) (c:=ae Tryz.f102) kr kr kr kr (aI fun a0=>(aI fun a1=>(aw (fun hp=>?_))));dsimp only[av]at hp;refine⟨nbl rfl,L0,ag _,?_⟩
 ·unfold ae Tryz.f102;try unfold ni
  exact zq1
@[go_sem] def iY (a0:District)(k_0:Nat)(s_0:Unit):Unit⊕Unit:=(bif(!(ni a0 (a0.rights.getD k_0 (default:Right))))then .inl ()else .inr ())
@[go_sem] def iZ (a0:District)(k_1:Nat)(s_1:Unit):Unit⊕Unit:=(bif(((!(aA ((a0.duties.getD k_1 (default:Duty)).farm) 0 (i64.wrap ((a0.farms.length:Int) - 1)))) ||(!(aA ((a0.duties.getD k_1 (default:Duty)).reach) 0 (i64.wrap ((a0.reaches.length:Int) - 1))))) ||(!(aA ((a0.duties.getD k_1 (default:Duty)).due) 0 a0.hours)))then .inl ()else .inr ())
def kP (a0:District):Bool:=(bif(((!(aA a0.hours 1 4096)) ||(!(aA a0.tank.start 0 a0.tank.cap))) ||(decide (a0.tank.cap > 1099511627776)))then false else(bif((!(jV a0.reaches)) ||(!(nh a0)))then false else(match am (iY a0) a0.rights.length 0 ()with| .inl x_0_0=>false| .inr s_0=>(match am (iZ a0) a0.duties.length 0 ()with| .inl x_1_0=>false| .inr s_1=>true))))
def mF (a0:District):Prop:=((((!(aA a0.hours 1 4096)) ||(!(aA a0.tank.start 0 a0.tank.cap))) ||(decide (a0.tank.cap > 1099511627776)))=false→(nM a0.reaches))
@[go_sem] def ud:List SV→Option Con:=(pD .district fun a0=>(pE (.det (mF a0) (.v (.bool (kP a0))))))
theorem z6:FnOk Tryz.prog 68 ud:=by
 have hG:ConsOk Tryz.prog (mkG [(99,gK),(100,fun l=>rE (cn [.sl .reach] l)),(101,fun l=>ub (cn [.st .district] l)),(102,fun l=>uc (cn [.st .district,.st .right] l))] []):=ap (cgc ii (cgc (wZ.norm [.sl .reach]) (cgc (zY.norm [.st .district]) (cgc (zZ.norm [.st .district,.st .right]) cg0)))) cg0;refine aL [.o] mixed aj hG (fn:=Tryz.f68) (c:=ae Tryz.f68) kr kr kr kr (aI fun a0=>(aw (fun hp=>?_)));dsimp only[av]at hp;unfold mF at hp;refine⟨nbl rfl,(fun id st=>bif Nat.beq id 0 then some (LCR (ρ:=Unit) (σ:=Unit) 1 [] [0] (fun k_0 s_0=>⟨[(1,.ptr 0 0),(3,.v (.int .i64 (k_0:Int)))],[.cells (cellsOf .district a0)]⟩) (iY a0) pT a0.rights.length () (True) (fun _=>.ret) (fun x_0_0=>⟨[(2,.v (.bool false))],[.dead]⟩) st)else bif Nat.beq id 2 then some (LCR (ρ:=Unit) (σ:=Unit) 1 [] [0] (fun k_1 s_1=>⟨[(1,.ptr 0 0),(4,.v (.int .i64 (k_1:Int)))],[.cells (cellsOf .district a0)]⟩) (iZ a0) pT a0.duties.length () (True) (fun _=>.ret) (fun x_1_0=>⟨[(2,.v (.bool false))],[.dead]⟩) st)else none),?_,?_⟩
 ·unfold ae Tryz.f68;simp only[al,true_and,and_true];refine⟨?_,?_⟩
  ·refine c7 (a0.rights.length≤aU) mixed aj hG kr (fun _=>rfl) (a0.rights.length:Int) rfl fK (fun hb0 k_0 s_0 hlt0 _ hw hc=>⟨L0,ag _,?_⟩) (fun hb0 s_0 hc=>?_) fun hb0 k_0 s_0=>?_
   ·exact bF (jl [0])
   ·exact bG (jl [0])
   ·exact zq7
  ·refine c7 (a0.duties.length≤aU) mixed aj hG kr (fun _=>rfl) (a0.duties.length:Int) rfl fK (fun hb1 k_1 s_1 hlt1 _ hw hc=>⟨L0,ag _,?_⟩) (fun hb1 s_1 hc=>?_) fun hb1 k_1 s_1=>?_
   ·exact bF (jl [0])
   ·exact bG (jl [0])
   ·exact G1
 ·unfold ae Tryz.f68;try unfold kP
  exact zq1
def fH (d:District):Int:=(bif(((((decide ((d.reaches.length:Int) > 64)) ||(decide ((d.farms.length:Int) > 600))) ||(decide ((d.crops.length:Int) > 32))) ||(decide ((d.rights.length:Int) > 256))) ||(decide ((d.duties.length:Int) > 256)))then 2 else(bif(!(kP d))then 191 else 0))
def jW (d:District):Prop:=(d.reaches.length≤aU→((((((decide ((d.reaches.length:Int) > 64)) ||(decide ((d.farms.length:Int) > 600))) ||(decide ((d.crops.length:Int) > 32))) ||(decide ((d.rights.length:Int) > 256))) ||(decide ((d.duties.length:Int) > 256)))=false→(mF d)))
@[go_sem] def py:List SV→Option Con:=(pD .district fun d=>(pE (.det (jW d) (.v (.int .i64 (fH d))))))
theorem sB:FnOk Tryz.prog 36 py:=by
 have hG:ConsOk Tryz.prog (mkG [(68,fun l=>ud (cn [.st .district] l))] []):=ap (cgc (z6.norm [.st .district]) cg0) cg0;refine aL [.o] mixed aj hG (fn:=Tryz.f36) (c:=ae Tryz.f36) kr kr kr kr (aI fun d=>(aw (fun hp=>?_)));dsimp only[av]at hp;unfold jW at hp;refine⟨nbl rfl,L0,ag _,?_⟩
 ·unfold ae Tryz.f36;try unfold fH
  exact zq1
theorem ij {l0 l1:List Nat}(a0:JL l0)(a1:JL l1){p:Prop}(h:JL l0→JL l1→p:=by intro ja jb;(first|done|(repeat' (first|with_reducible refine And.intro ?_ ?_|((with_reducible show _≠_);first|assumption|omega|(simp_all [dy,ev];done) |grind) |with_reducible intro _)) <;>(first|done|with_reducible exact Empty.elim ‹Empty› |with_reducible assumption|rfl|omega|assumption|decide|exact fk ja|exact fk jb|exact czl|(simp only[*,cond_true,cond_false,Bool.not_true,Bool.not_false,go_sem,Nat.reduceBEq,Nat.reduceLeDiff,Nat.reduceLT,decide_true,Nat.reduceAdd,Nat.reduceSub,Nat.reduceMul,Int.reduceLE,Int.reduceLT,Int.reduceToNat,Int.reduceNeg,reduceCtorEq];(repeat' (first|with_reducible refine And.intro ?_ ?_|((with_reducible show _≠_);first|assumption|omega|(simp_all [dy,ev];done) |grind) |with_reducible intro _)) <;>(first|done|assumption|rfl|omega|decide|exact fk ja|exact fk jb|(simp_all [dy,ev];done))) |(simp_all [okI,dy,ev];done) |(simp_all [dy,ev];(first|done|exact fk2 ja|exact fk2 jb)) |exact fk2 ja|exact fk2 jb))):p:=h a0 a1
theorem sC {l0 l1:List Nat}(a0:JL l0)(a1:JL l1){p:Prop}(h:JL l0→JL l1→p:=by intro ja jb;simp only[go_sem,Nat.reduceBEq,Nat.reduceLeDiff,Nat.reduceLT,decide_true,Nat.reduceAdd,Nat.reduceSub,Nat.reduceMul,Int.reduceLE,Int.reduceLT,Int.reduceToNat,Int.reduceNeg,reduceCtorEq];all_goals exact ij ja jb):p:=h a0 a1
theorem qn {l0 l1:List Nat}(a0:JL l0)(a1:JL l1){p:Prop}(h:JL l0→JL l1→p:=by intro ja jb;simp only[go_sem,Nat.reduceBEq,Nat.reduceLeDiff,Nat.reduceLT,decide_true,Nat.reduceAdd,Nat.reduceSub,Nat.reduceMul,Int.reduceLE,Int.reduceLT,Int.reduceToNat,Int.reduceNeg,reduceCtorEq,hc,hw];all_goals exact ij ja jb):p:=h a0 a1
theorem qo {l0 l1:List Nat}(a0:JL l0)(a1:JL l1){p:Prop}(h:JL l0→JL l1→p:=by intro ja jb;simp only[go_sem,Nat.reduceBEq,Nat.reduceLeDiff,Nat.reduceLT,decide_true,Nat.reduceAdd,Nat.reduceSub,Nat.reduceMul,Int.reduceLE,Int.reduceLT,Int.reduceToNat,Int.reduceNeg,reduceCtorEq,hc];all_goals exact ij ja jb):p:=h a0 a1
def fm (x:Deed)(right:Bool)(fr:Bool)(to:Bool)(parts:Bool)(of_:Bool):Bool:=(((((right||(x.right==0))&&(fr||(x.since==0)))&&(to||(x.to==0)))&&(parts||((x.parts.length:Int) ==0)))&&(of_||(x.of_==0)))
@[go_sem] def vS:List SV→Option Con:=(pD .deed fun x=>(pB fun right=>(pB fun fr=>(pB fun to=>(pB fun parts=>(pB fun of_=>(pE (.det True (.v (.bool (fm x right fr to parts of_)))))))))))
theorem A8:FnOk Tryz.prog 130 vS:=by
 have hG:ConsOk Tryz.prog (mkG [] []):=ap cg0 cg0;refine aL [.o] mixed aj hG (fn:=Tryz.f130) (c:=ae Tryz.f130) kr kr kr kr (aI fun x=>(wU fun right=>(wU fun fr=>(wU fun to=>(wU fun parts=>(wU fun of_=>(aw (fun hp=>?_))))))));dsimp only[av]at hp;refine⟨nbl rfl,L0,ag _,?_⟩
 ·unfold ae Tryz.f130;try unfold fm
  exact zq1
def gk (d:District)(x:Deed):Bool:=(((((decide (x.right≥0))&&(decide (x.right< (d.rights.length:Int))))&&((d.rights.getD (Int.toNat x.right) (default:Right)).kind==1))&&(decide (x.since≥0)))&&(decide (x.since< (d.farms.length:Int))))
def gL (d:District)(x:Deed):Prop:=(((decide (x.right≥0))&&(decide (x.right< (d.rights.length:Int))))=true→(0≤x.right∧x.right< (d.rights.length:Int)))
@[go_sem] def sD:List SV→Option Con:=(pD .district fun d=>(pD .deed fun x=>(pE (.det (gL d x) (.v (.bool (gk d x)))))))
theorem yi:FnOk Tryz.prog 131 sD:=by
 have hG:ConsOk Tryz.prog (mkG [] []):=ap cg0 cg0;refine aL [.o] mixed aj hG (fn:=Tryz.f131) (c:=ae Tryz.f131) kr kr kr kr (aI fun d=>(aI fun x=>(aw (fun hp=>?_))));dsimp only[av]at hp;unfold gL at hp;refine⟨nbl rfl,L0,ag _,?_⟩
 ·unfold ae Tryz.f131;try unfold gk
  exact zq1
@[go_sem] def ez (a1:List Part)(k_0:Nat)(k_1:Nat)(s_1:Unit):Unit⊕Unit:=(bif((a1.getD k_1 (default:Part)).farm==(a1.getD k_0 (default:Part)).farm)then .inl ()else .inr ())
def mc (a1:List Part)(k_0:Nat)(k_1:Nat)(s_1:Unit):Prop:=(0≤(k_1:Int)∧(k_1:Int) < (a1.length:Int))
@[go_sem] def i0 (a0:District)(a1:List Part)(k_0:Nat)(s_0:Int×Int):Unit⊕(Int×Int):=(bif((((decide ((a1.getD k_0 (default:Part)).farm<0)) ||(decide ((a1.getD k_0 (default:Part)).farm≥(a0.farms.length:Int)))) ||(!(cX ((a1.getD k_0 (default:Part)).share)))) ||(decide ((a1.getD k_0 (default:Part)).share.n≤0)))then .inl ()else(match am (ez a1 k_0) (Int.toNat (k_0:Int)) 0 ()with| .inl x_1_0=>.inl () | .inr s_1=>(bif((kM ({ n:=s_0.1,d:=s_0.2}:Ratio) ((a1.getD k_0 (default:Part)).share)).2 !=0)then .inl ()else .inr (((kM ({ n:=s_0.1,d:=s_0.2}:Ratio) ((a1.getD k_0 (default:Part)).share)).1).n,((kM ({ n:=s_0.1,d:=s_0.2}:Ratio) ((a1.getD k_0 (default:Part)).share)).1).d))))
def mf (a0:District)(a1:List Part)(k_0:Nat)(s_0:Int×Int):Prop:=(a1.length≤aU→((((decide ((a1.getD k_0 (default:Part)).farm<0)) ||(decide ((a1.getD k_0 (default:Part)).farm≥(a0.farms.length:Int))))=false→(fF ((a1.getD k_0 (default:Part)).share)))∧(((((decide ((a1.getD k_0 (default:Part)).farm<0)) ||(decide ((a1.getD k_0 (default:Part)).farm≥(a0.farms.length:Int)))) ||(!(cX ((a1.getD k_0 (default:Part)).share)))) ||(decide ((a1.getD k_0 (default:Part)).share.n≤0)))=false→(((k_0:Int) <9223372036854775808)∧okI (ez a1 k_0) (mc a1 k_0) (Int.toNat (k_0:Int)) 0 ()∧(∀ s_1,am (ez a1 k_0) (Int.toNat (k_0:Int)) 0 ()=.inr s_1→(nc ({ n:=s_0.1,d:=s_0.2}:Ratio) ((a1.getD k_0 (default:Part)).share)))))))
def nj (a0:District)(a1:List Part):Bool:=(bif((decide ((a1.length:Int) <1)) ||(decide ((a1.length:Int) > 16)))then false else(match am (i0 a0 a1) a1.length 0 (0,1)with| .inl x_0_0=>false| .inr s_0=>(s_0.1==s_0.2)))
def mG (a0:District)(a1:List Part):Prop:=(a1.length≤aU→(((decide ((a1.length:Int) <1)) ||(decide ((a1.length:Int) > 16)))=false→okI (i0 a0 a1) (mf a0 a1) a1.length 0 (0,1)))
@[go_sem] def ue:List SV→Option Con:=(pD .district fun a0=>(pR .part fun a1=>(pE (.det (mG a0 a1) (.v (.bool (nj a0 a1)))))))
theorem z7:FnOk Tryz.prog 132 ue:=by
 have hG:ConsOk Tryz.prog (mkG [(160,jT),(161,xG)] []):=ap (cgc lp (cgc Dh cg0)) cg0;refine aL [.o] mixed aj hG (fn:=Tryz.f132) (c:=ae Tryz.f132) kr kr kr kr (aI fun a0=>(cI fun a1=>(aw (fun hp=>?_))));dsimp only[av]at hp;unfold mG at hp;refine⟨nbl rfl,(fun id st=>bif Nat.beq id 0 then some (LCR (ρ:=Unit) (σ:=(Int×Int)) 2 [] [0,1] (fun k_0 s_0=>⟨[(1,.rs .part a1),(2,.ptr 0 0),(5,.ptr 1 0),(6,.v (.int .i64 (k_0:Int)))],[.cells (cellsOf .district a0),.cells [.v (.int .i64 s_0.1),.v (.int .i64 s_0.2)]]⟩) (i0 a0 a1) (mf a0 a1) a1.length (0,1) (True) (fun _=>.ret) (fun x_0_0=>⟨[(4,.v (.bool false))],[.dead,.dead]⟩) st)else none),?_,?_⟩
 ·unfold ae Tryz.f132;simp only[al,true_and,and_true]
  ·refine c7 (a1.length≤aU) mixed aj hG kr (fun _=>rfl) (a1.length:Int) rfl fK (fun hb0 k_0 s_0 hlt0 hq0 hw hc=>⟨(fun id st=>bif Nat.beq id 2 then some (LCR (ρ:=Unit) (σ:=Unit) 3 [] [0,1,2] (fun k_1 s_1=>⟨[(1,.rs .part a1),(2,.ptr 0 0),(5,.ptr 1 0),(6,.v (.int .i64 (k_0:Int))),(7,.ptr 2 0),(8,.v (.int .i64 (k_1:Int)))],[.cells (cellsOf .district a0),.cells [.v (.int .i64 s_0.1),.v (.int .i64 s_0.2)],.cells (cellsOf .part (a1.getD k_0 (default:Part)))]⟩) (ez a1 k_0) (mc a1 k_0) (Int.toNat (k_0:Int)) () ((k_0:Int) <9223372036854775808) (fun _=>.ret) (fun x_1_0=>⟨[(4,.v (.bool false))],[.dead,.dead,.dead]⟩) st)else none),?_,?_⟩) (fun hb0 s_0 hc=>?_) fun hb0 k_0 s_0=>?_
   ·simp only[al,true_and,and_true]
    ·refine dp mixed aj hG kr (fun _=>rfl) (k_0:Int) rfl id (fun hb1 k_1 s_1 hlt1 hq1 hw hc=>⟨L0,ag _,?_⟩) (fun hb1 s_1 hc=>?_)
     ·unfold mc at hq1;try simp only[hw,Int.toNat_natCast]at hq1
      exact bF (jl [0,1,2])
     ·exact bG (jl [0,1,2])
   ·unfold mf at hq0;try simp only[hw,Int.toNat_natCast]at hq0
    exact bF (jl [0,1])
   ·exact bG (jl [0,1])
   ·exact zq7
 ·unfold ae Tryz.f132;try unfold nj
  exact zq1
@[go_sem] def oQ (l_:List Deed)(of_:Int)(k_0:Nat)(s_0:Unit):Int⊕Unit:=(bif(((l_.getD k_0 (default:Deed)).no==of_)&&((l_.getD k_0 (default:Deed)).kind !=4))then .inl (k_0:Int)else .inr ())
def fI (l_:List Deed)(of_:Int):Int:=(match am (oQ l_ of_) l_.length 0 ()with| .inl x_0_0=>x_0_0| .inr s_0=>(-1))
@[go_sem] def uf:List SV→Option Con:=(pR .deed fun l_=>(pI fun of_=>(pE (.det True (.v (.int .i64 (fI l_ of_)))))))
theorem z8:FnOk Tryz.prog 133 uf:=by
 have hG:ConsOk Tryz.prog (mkG [] []):=ap cg0 cg0;refine aL [.o] mixed aj hG (fn:=Tryz.f133) (c:=ae Tryz.f133) kr kr kr kr (cI fun l_=>(aM fun of_=>(aw (fun hp=>?_))));dsimp only[av]at hp;refine⟨nbl rfl,(fun id st=>bif Nat.beq id 0 then some (LCR (ρ:=Int) (σ:=Unit) 0 [] [] (fun k_0 s_0=>⟨[(0,.rs .deed l_),(1,.v (.int .i64 of_)),(5,.v (.int .i64 (k_0:Int)))],[]⟩) (oQ l_ of_) pT l_.length () (True) (fun _=>.ret) (fun x_0_0=>⟨[(4,.v (.int .i64 x_0_0))],[]⟩) st)else none),?_,?_⟩
 ·unfold ae Tryz.f133;simp only[al,true_and,and_true]
  ·refine c7 (l_.length≤aU) mixed aj hG kr (fun _=>rfl) (l_.length:Int) rfl fK (fun hb0 k_0 s_0 hlt0 _ hw hc=>⟨L0,ag _,?_⟩) (fun hb0 s_0 hc=>?_) fun hb0 k_0 s_0=>?_
   ·exact bF (jl [])
   ·exact bG (jl [])
   ·exact zq7
 ·unfold ae Tryz.f133;try unfold fI
  exact zq1
def nk (a0:District)(a1:List Deed)(a2:Deed):Bool:=(bif((((((decide (a2.no<0)) ||(decide (a2.no > 1048576))) ||(decide (a2.at_<0))) ||(decide (a2.at_ > 4096))) ||(decide (a2.known<0))) ||(decide (a2.known > 1048576)))then false else(bif(a2.kind==1)then(((((fm a2 true true true false false)&&(gk a0 a2))&&(decide (a2.to≥0)))&&(decide (a2.to< (a0.farms.length:Int))))&&(a2.to !=a2.since))else(bif(a2.kind==2)then(((fm a2 true true false true false)&&(gk a0 a2))&&(nj a0 a2.parts))else(bif(a2.kind==3)then((fm a2 true true false false false)&&(gk a0 a2))else(bif(a2.kind==4)then(((fm a2 false false false false true)&&(decide ((fI a1 a2.of_)≥0)))&&(decide (a2.known≥(a1.getD (Int.toNat (fI a1 a2.of_)) (default:Deed)).known)))else false)))))
def mH (a0:District)(a1:List Deed)(a2:Deed):Prop:=(((((((decide (a2.no<0)) ||(decide (a2.no > 1048576))) ||(decide (a2.at_<0))) ||(decide (a2.at_ > 4096))) ||(decide (a2.known<0))) ||(decide (a2.known > 1048576)))=false→(((a2.kind==1)=true→((fm a2 true true true false false)=true→(gL a0 a2)))∧((a2.kind==1)=false→(((a2.kind==2)=true→(((fm a2 true true false true false)=true→(gL a0 a2))∧(((fm a2 true true false true false)&&(gk a0 a2))=true→(mG a0 a2.parts))))∧((a2.kind==2)=false→(((a2.kind==3)=true→((fm a2 true true false false false)=true→(gL a0 a2)))∧((a2.kind==3)=false→((a2.kind==4)=true→(((fm a2 false false false false true)&&(decide ((fI a1 a2.of_)≥0)))=true→(0≤(fI a1 a2.of_)∧(fI a1 a2.of_) < (a1.length:Int)))))))))))
@[go_sem] def ug:List SV→Option Con:=(pD .district fun a0=>(pR .deed fun a1=>(pD .deed fun a2=>(pE (.det (mH a0 a1 a2) (.v (.bool (nk a0 a1 a2))))))))
theorem Aa:FnOk Tryz.prog 90 ug:=by
 have hG:ConsOk Tryz.prog (mkG [(130,fun l=>vS (cn [.st .deed,.o,.o,.o,.o,.o] l)),(131,fun l=>sD (cn [.st .district,.st .deed] l)),(132,fun l=>ue (cn [.st .district,.sl .part] l)),(133,fun l=>uf (cn [.sl .deed,.o] l))] []):=ap (cgc (A8.norm [.st .deed,.o,.o,.o,.o,.o]) (cgc (yi.norm [.st .district,.st .deed]) (cgc (z7.norm [.st .district,.sl .part]) (cgc (z8.norm [.sl .deed,.o]) cg0)))) cg0;refine aL [.o] mixed aj hG (fn:=Tryz.f90) (c:=ae Tryz.f90) kr kr kr kr (aI fun a0=>(cI fun a1=>(aI fun a2=>(aw (fun hp=>?_)))));dsimp only[av]at hp;unfold mH at hp;refine⟨nbl rfl,L0,ag _,?_⟩
 ·unfold ae Tryz.f90;try unfold nk
  exact zq1
@[go_sem] def iq (l_:List Deed)(k_0:Nat)(s_0:Unit):Unit⊕Unit:=(bif(decide ((((l_.getD k_0 (default:Deed)).parts).length:Int) > 16))then .inl ()else .inr ())
def mg (l_:List Deed):Bool:=(bif(decide ((l_.length:Int) > 512))then true else(match am (iq l_) l_.length 0 ()with| .inl x_0_0=>true| .inr s_0=>false))
@[go_sem] def vT:List SV→Option Con:=(pR .deed fun l_=>(pE (.det True (.v (.bool (mg l_))))))
theorem A9:FnOk Tryz.prog 89 vT:=by
 have hG:ConsOk Tryz.prog (mkG [] []):=ap cg0 cg0;refine aL [.o] mixed aj hG (fn:=Tryz.f89) (c:=ae Tryz.f89) kr kr kr kr (cI fun l_=>(aw (fun hp=>?_)));dsimp only[av]at hp;refine⟨nbl rfl,(fun id st=>bif Nat.beq id 0 then some (LCR (ρ:=Unit) (σ:=Unit) 0 [] [] (fun k_0 s_0=>⟨[(0,.rs .deed l_),(3,.v (.int .i64 (k_0:Int)))],[]⟩) (iq l_) pT l_.length () (True) (fun _=>.ret) (fun x_0_0=>⟨[(2,.v (.bool true))],[]⟩) st)else none),?_,?_⟩
 ·unfold ae Tryz.f89;simp only[al,true_and,and_true]
  ·refine c7 (l_.length≤aU) mixed aj hG kr (fun _=>rfl) (l_.length:Int) rfl fK (fun hb0 k_0 s_0 hlt0 _ hw hc=>⟨L0,ag _,?_⟩) (fun hb0 s_0 hc=>?_) fun hb0 k_0 s_0=>?_
   ·exact bF (jl [])
   ·exact bG (jl [])
   ·exact zq7
 ·unfold ae Tryz.f89;try unfold mg
  exact zq1
@[go_sem] def i6 (d:District)(l_:List Deed)(k_0:Nat)(s_0:Unit):Unit⊕Unit:=(bif(((decide ((k_0:Int) > 0))&&(decide ((l_.getD k_0 (default:Deed)).no≤(l_.getD (Int.toNat (i64.wrap ((k_0:Int) - 1))) (default:Deed)).no))) ||(!(nk d ((l_.take k_0).drop 0) (l_.getD k_0 (default:Deed)))))then .inl ()else .inr ())
def mh (d:District)(l_:List Deed)(k_0:Nat)(s_0:Unit):Prop:=(l_.length≤aU→(((decide ((k_0:Int) > 0))=true→(0≤(i64.wrap ((k_0:Int) - 1))∧(i64.wrap ((k_0:Int) - 1)) < (l_.length:Int)))∧((((decide ((k_0:Int) > 0))&&(decide ((l_.getD k_0 (default:Deed)).no≤(l_.getD (Int.toNat (i64.wrap ((k_0:Int) - 1))) (default:Deed)).no)))=false→(0≤0∧0≤(k_0:Int)∧(k_0:Int)≤(l_.length:Int)))∧(((decide ((k_0:Int) > 0))&&(decide ((l_.getD k_0 (default:Deed)).no≤(l_.getD (Int.toNat (i64.wrap ((k_0:Int) - 1))) (default:Deed)).no)))=false→(mH d ((l_.take k_0).drop 0) (l_.getD k_0 (default:Deed)))))))
def gl (d:District)(l_:List Deed):Int:=(bif((fH d) !=0)then(fH d)else(bif(mg l_)then 2 else(match am (i6 d l_) l_.length 0 ()with| .inl x_0_0=>250| .inr s_0=>0)))
def jX (d:District)(l_:List Deed):Prop:=((jW d)∧(((fH d) !=0)=false→((mg l_)=false→okI (i6 d l_) (mh d l_) l_.length 0 ())))
@[go_sem] def pz:List SV→Option Con:=(pD .district fun d=>(pR .deed fun l_=>(pE (.det (jX d l_) (.v (.int .i64 (gl d l_)))))))
theorem sE:FnOk Tryz.prog 57 pz:=by
 have hG:ConsOk Tryz.prog (mkG [(36,fun l=>py (cn [.st .district] l)),(89,fun l=>vT (cn [.sl .deed] l)),(90,fun l=>ug (cn [.st .district,.sl .deed,.st .deed] l))] []):=ap (cgc (sB.norm [.st .district]) (cgc (A9.norm [.sl .deed]) (cgc (Aa.norm [.st .district,.sl .deed,.st .deed]) cg0))) cg0;refine aL [.o] mixed aj hG (fn:=Tryz.f57) (c:=ae Tryz.f57) kr kr kr kr (aI fun d=>(cI fun l_=>(aw (fun hp=>?_))));dsimp only[av]at hp;unfold jX at hp;refine⟨nbl rfl,(fun id st=>bif Nat.beq id 0 then some (LCR (ρ:=Unit) (σ:=Unit) 1 [] [0] (fun k_0 s_0=>⟨[(1,.rs .deed l_),(2,.ptr 0 0),(6,.v (.int .i64 (k_0:Int)))],[.cells (cellsOf .district d)]⟩) (i6 d l_) (mh d l_) l_.length () (True) (fun _=>.ret) (fun x_0_0=>⟨[(4,.v (.int .i64 250))],[.dead]⟩) st)else none),?_,?_⟩
 ·unfold ae Tryz.f57;simp only[al,true_and,and_true]
  ·refine c7 (l_.length≤aU) mixed aj hG kr (fun _=>rfl) (l_.length:Int) rfl fK (fun hb0 k_0 s_0 hlt0 hq0 hw hc=>⟨L0,ag _,?_⟩) (fun hb0 s_0 hc=>?_) fun hb0 k_0 s_0=>?_
   ·unfold mh at hq0;try simp only[hw,Int.toNat_natCast]at hq0
    exact bF (jl [0])
   ·exact bG (jl [0])
   ·exact zq7
 ·unfold ae Tryz.f57;try unfold gl
  exact zq1
@[go_sem] def ir (l_:List Deed)(x:Deed)(known:Int)(k_0:Nat)(s_0:Unit):Unit⊕Unit:=(bif((((l_.getD k_0 (default:Deed)).kind==4)&&((l_.getD k_0 (default:Deed)).of_==x.no))&&(decide ((l_.getD k_0 (default:Deed)).known≤known)))then .inl ()else .inr ())
def mj (l_:List Deed)(x:Deed)(known:Int):Bool:=(match am (ir l_ x known) l_.length 0 ()with| .inl x_0_0=>true| .inr s_0=>false)
@[go_sem] def vU:List SV→Option Con:=(pR .deed fun l_=>(pD .deed fun x=>(pI fun known=>(pE (.det True (.v (.bool (mj l_ x known))))))))
theorem A_:FnOk Tryz.prog 134 vU:=by
 have hG:ConsOk Tryz.prog (mkG [] []):=ap cg0 cg0;refine aL [.o] mixed aj hG (fn:=Tryz.f134) (c:=ae Tryz.f134) kr kr kr kr (cI fun l_=>(aI fun x=>(aM fun known=>(aw (fun hp=>?_)))));dsimp only[av]at hp;refine⟨nbl rfl,(fun id st=>bif Nat.beq id 0 then some (LCR (ρ:=Unit) (σ:=Unit) 1 [] [0] (fun k_0 s_0=>⟨[(0,.rs .deed l_),(2,.v (.int .i64 known)),(4,.ptr 0 0),(7,.v (.int .i64 (k_0:Int)))],[.cells (cellsOf .deed x)]⟩) (ir l_ x known) pT l_.length () (True) (fun _=>.ret) (fun x_0_0=>⟨[(6,.v (.bool true))],[.dead]⟩) st)else none),?_,?_⟩
 ·unfold ae Tryz.f134;simp only[al,true_and,and_true]
  ·refine c7 (l_.length≤aU) mixed aj hG kr (fun _=>rfl) (l_.length:Int) rfl fK (fun hb0 k_0 s_0 hlt0 _ hw hc=>⟨L0,ag _,?_⟩) (fun hb0 s_0 hc=>?_) fun hb0 k_0 s_0=>?_
   ·exact bF (jl [0])
   ·exact bG (jl [0])
   ·exact zq7
 ·unfold ae Tryz.f134;try unfold mj
  exact zq1
@[go_sem] def fg (l_:List Deed)(known:Int)(s_0:List Deed×Int)(k_1:Nat)(s_1:List Deed):Empty⊕(List Deed):=(bif(((((l_.getD k_1 (default:Deed)).at_==s_0.2)&&((l_.getD k_1 (default:Deed)).kind !=4))&&(decide ((l_.getD k_1 (default:Deed)).known≤known)))&&(!(mj l_ (l_.getD k_1 (default:Deed)) known)))then .inr (s_1++([(l_.getD k_1 (default:Deed))]))else .inr s_1)
def jI (l_:List Deed)(known:Int)(s_0:List Deed×Int)(k_1:Nat)(s_1:List Deed):Prop:=(l_.length≤aU→((((((l_.getD k_1 (default:Deed)).at_==s_0.2)&&((l_.getD k_1 (default:Deed)).kind !=4))&&(decide ((l_.getD k_1 (default:Deed)).known≤known)))&&(!(mj l_ (l_.getD k_1 (default:Deed)) known)))=true→((s_1++([(l_.getD k_1 (default:Deed))])).length*88≤d5)))
@[go_sem] def eA (l_:List Deed)(hour:Int)(known:Int)(k_0:Nat)(s_0:List Deed×Int):(List Deed)⊕(List Deed×Int):=(bif((decide (s_0.2≤4096))&&(decide (s_0.2≤hour)))then(match am (fg l_ known s_0) l_.length 0 s_0.1 with| .inl x=>x.elim| .inr s_1=>.inr (s_1,(i64.wrap (s_0.2+1))))else .inl s_0.1)
def fv (l_:List Deed)(hour:Int)(known:Int)(k_0:Nat)(s_0:List Deed×Int):Prop:=(((decide (s_0.2≤4096))&&(decide (s_0.2≤hour)))=true→okI (fg l_ known s_0) (jI l_ known s_0) l_.length 0 s_0.1)
def bB (l_:List Deed)(hour:Int)(known:Int):List Deed:=(match am (eA l_ hour known) (Int.toNat hour+2) 0 ([],0)with| .inl x_0_0=>x_0_0| .inr s_0=>default)
def gM (l_:List Deed)(hour:Int)(known:Int):Prop:=(okI (eA l_ hour known) (fv l_ hour known) (Int.toNat hour+2) 0 ([],0)∧(∀ z_,am (eA l_ hour known) (Int.toNat hour+2) 0 ([],0)≠ .inr z_))
@[go_sem] def qp:List SV→Option Con:=(pR .deed fun l_=>(pI fun hour=>(pI fun known=>(pE (.det (gM l_ hour known) (.nw .deed (bB l_ hour known)))))))
theorem vV:FnOk Tryz.prog 91 qp:=by
 have hG:ConsOk Tryz.prog (mkG [(134,fun l=>vU (cn [.sl .deed,.st .deed,.o] l))] []):=ap (cgc (A_.norm [.sl .deed,.st .deed,.o]) cg0) cg0;refine iT [(.tmp 6,.deed)] mixed aj hG (fn:=Tryz.f91) (c:=ae Tryz.f91) kr kr kr kr (cI fun l_=>(aM fun hour=>(aM fun known=>(aw (fun hp=>?_)))));dsimp only[av]at hp;unfold gM at hp;refine⟨nbl rfl,(fun id st=>bif Nat.beq id 0 then some (LCV (ρ:=(List Deed)) (σ:=(List Deed×Int)) 0 [.slot 7 (.row .deed ([]))] [0] (fun k_0 s_0=>⟨[(0,.rs .deed l_),(1,.v (.int .i64 hour)),(2,.v (.int .i64 known)),(7,.os 0),(8,.v (.int .i64 s_0.2))],[.row .deed s_0.1]⟩) (eA l_ hour known) (fv l_ hour known) (Int.toNat hour+2) ([],0) (fun _=>.normal) (fun x_0_0=>⟨[(7,.os 0)],[.row .deed x_0_0]⟩) st)else none),?_,?_⟩
 ·unfold ae Tryz.f91;simp only[al,true_and,and_true]
  ·refine dR mixed aj hG kr (fun _=>rfl) fun k_0 s_0 hq0=>⟨(fun id st=>bif Nat.beq id 2 then some (LCR (ρ:=Empty) (σ:=(List Deed)) 1 [] [0,0] (fun k_1 s_1=>⟨[(0,.rs .deed l_),(1,.v (.int .i64 hour)),(2,.v (.int .i64 known)),(7,.os 1),(8,.v (.int .i64 s_0.2)),(9,.v (.int .i64 (k_1:Int)))],[.dead,.row .deed s_1]⟩) (fg l_ known s_0) (jI l_ known s_0) l_.length s_0.1 (True) ((·.elim)) ((·.elim)) st)else none),?_,?_⟩
   ·simp only[al,true_and,and_true]
    ·refine c7 (l_.length≤aU) mixed aj hG kr (fun _=>rfl) (l_.length:Int) rfl fK (fun hb1 k_1 s_1 hlt1 hq1 hw hc=>⟨L0,ag _,?_⟩) (fun hb1 s_1 hc=>?_) fun hb1 k_1 s_1=>?_
     ·unfold jI at hq1;try simp only[hw,Int.toNat_natCast]at hq1
      exact qn (jl [0,4]) (jl [0,1])
     ·exact qo (jl [0,4]) (jl [0,1])
     ·exact G1
   ·unfold fv at hq0;exact sC (jl [1]) (jl [0])
 ·unfold ae Tryz.f91;try unfold bB
  exact zq1
theorem EP {l0 l1:List Nat}(a0:JL l0)(a1:JL l1){p:Prop}(h:JL l0→JL l1→p:=by intro ja jb;(first|done|(repeat' (first|with_reducible refine And.intro ?_ ?_|((with_reducible show _≠_);first|assumption|omega|(simp_all [dy,ev];done) |grind) |with_reducible intro _)) <;>(first|done|with_reducible exact Empty.elim ‹Empty› |with_reducible assumption|rfl|omega|assumption|decide|exact fk ja|exact fk jb|exact czl|(simp only[*,cond_true,cond_false,Bool.not_true,Bool.not_false,go_sem,Nat.reduceBEq,Nat.reduceLeDiff,Nat.reduceLT,decide_true,Nat.reduceAdd,Nat.reduceSub,Nat.reduceMul,Int.reduceLE,Int.reduceLT,Int.reduceToNat,Int.reduceNeg,reduceCtorEq];(repeat' (first|with_reducible refine And.intro ?_ ?_|((with_reducible show _≠_);first|assumption|omega|(simp_all [dy,ev];done) |grind) |with_reducible intro _)) <;>(first|done|assumption|rfl|omega|decide|exact fk ja|exact fk jb|(simp_all [dy,ev];done))) |(simp_all [okI,dy,ev];done) |(simp_all [dy,ev];(first|done|exact fk2 ja|exact fk2 jb)) |exact fk2 ja|exact fk2 jb|(simp_all only[dy,ev,cond_true,cond_false];(first|done|exact fk ja|exact fk jb|exact fk2 ja|exact fk2 jb|(simp only[go_sem,Nat.reduceBEq,Nat.reduceLeDiff,Nat.reduceLT,decide_true,Nat.reduceAdd,Nat.reduceSub,Nat.reduceMul,Int.reduceLE,Int.reduceLT,Int.reduceToNat,Int.reduceNeg,reduceCtorEq];((repeat' (first|with_reducible refine And.intro ?_ ?_|((with_reducible show _≠_);first|assumption|omega|(simp_all [dy,ev];done) |grind) |with_reducible intro _)) <;>(first|done|rfl|exact fk ja|exact fk jb|exact fk2 ja|exact fk2 jb)))))))):p:=h a0 a1
theorem EQ {l0:List Nat}(a0:JL l0){p:Prop}(h:JL l0→p:=by intro ja;(first|done|(repeat' (first|with_reducible refine And.intro ?_ ?_|((with_reducible show _≠_);first|assumption|omega|(simp_all [dy,ev];done) |grind) |with_reducible intro _)) <;>(first|done|with_reducible exact Empty.elim ‹Empty› |with_reducible assumption|rfl|omega|assumption|decide|exact fk ja|exact czl|(simp only[*,cond_true,cond_false,Bool.not_true,Bool.not_false,go_sem,Nat.reduceBEq,Nat.reduceLeDiff,Nat.reduceLT,decide_true,Nat.reduceAdd,Nat.reduceSub,Nat.reduceMul,Int.reduceLE,Int.reduceLT,Int.reduceToNat,Int.reduceNeg,reduceCtorEq];(repeat' (first|with_reducible refine And.intro ?_ ?_|((with_reducible show _≠_);first|assumption|omega|(simp_all [dy,ev];done) |grind) |with_reducible intro _)) <;>(first|done|assumption|rfl|omega|decide|exact fk ja|(simp_all [dy,ev];done))) |(simp_all [okI,dy,ev];done) |(simp_all [dy,ev];(first|done|exact fk2 ja)) |exact fk2 ja|(simp_all only[dy,ev,cond_true,cond_false];(first|done|exact fk ja|exact fk2 ja|(simp only[go_sem,Nat.reduceBEq,Nat.reduceLeDiff,Nat.reduceLT,decide_true,Nat.reduceAdd,Nat.reduceSub,Nat.reduceMul,Int.reduceLE,Int.reduceLT,Int.reduceToNat,Int.reduceNeg,reduceCtorEq];((repeat' (first|with_reducible refine And.intro ?_ ?_|((with_reducible show _≠_);first|assumption|omega|(simp_all [dy,ev];done) |grind) |with_reducible intro _)) <;>(first|done|rfl|exact fk ja|exact fk2 ja)))))))):p:=h a0
theorem Ab {l0 l1:List Nat}(a0:JL l0)(a1:JL l1){p:Prop}(h:JL l0→JL l1→p:=by intro ja jb;simp only[go_sem,Nat.reduceBEq,Nat.reduceLeDiff,Nat.reduceLT,decide_true,Nat.reduceAdd,Nat.reduceSub,Nat.reduceMul,Int.reduceLE,Int.reduceLT,Int.reduceToNat,Int.reduceNeg,reduceCtorEq,hc,hw];all_goals exact EP ja jb):p:=h a0 a1
theorem Ac {l0 l1:List Nat}(a0:JL l0)(a1:JL l1){p:Prop}(h:JL l0→JL l1→p:=by intro ja jb;simp only[go_sem,Nat.reduceBEq,Nat.reduceLeDiff,Nat.reduceLT,decide_true,Nat.reduceAdd,Nat.reduceSub,Nat.reduceMul,Int.reduceLE,Int.reduceLT,Int.reduceToNat,Int.reduceNeg,reduceCtorEq,hc];all_goals exact EP ja jb):p:=h a0 a1
theorem ER {l0:List Nat}(a0:JL l0){p:Prop}(h:JL l0→p:=by intro ja;simp only[go_sem,Nat.reduceBEq,Nat.reduceLeDiff,Nat.reduceLT,decide_true,Nat.reduceAdd,Nat.reduceSub,Nat.reduceMul,Int.reduceLE,Int.reduceLT,Int.reduceToNat,Int.reduceNeg,reduceCtorEq,hc,hw];all_goals exact EQ ja):p:=h a0
theorem ES {l0:List Nat}(a0:JL l0){p:Prop}(h:JL l0→p:=by intro ja;simp only[go_sem,Nat.reduceBEq,Nat.reduceLeDiff,Nat.reduceLT,decide_true,Nat.reduceAdd,Nat.reduceSub,Nat.reduceMul,Int.reduceLE,Int.reduceLT,Int.reduceToNat,Int.reduceNeg,reduceCtorEq,hc];all_goals exact EQ ja):p:=h a0
@[go_sem] def cG (a1:List Deed)(k_0:Nat)(s_0:List Int×List Int)(k_1:Nat)(s_1:List Int×Int):Empty⊕(List Int×Int):=.inr ((s_1.1.set (Int.toNat ((((a1.getD k_0 (default:Deed)).parts).getD k_1 (default:Part)).farm)) (i64.wrap ((s_1.1.getD (Int.toNat ((((a1.getD k_0 (default:Deed)).parts).getD k_1 (default:Part)).farm)) (0:Int))+(d6 ((((a1.getD k_0 (default:Deed)).parts).getD k_1 (default:Part)).share) (s_0.2.getD (Int.toNat ((a1.getD k_0 (default:Deed)).since)) (0:Int))).1))),(i64.wrap (s_1.2 - (d6 ((((a1.getD k_0 (default:Deed)).parts).getD k_1 (default:Part)).share) (s_0.2.getD (Int.toNat ((a1.getD k_0 (default:Deed)).since)) (0:Int))).1)))
def iH (a1:List Deed)(k_0:Nat)(s_0:List Int×List Int)(k_1:Nat)(s_1:List Int×Int):Prop:=(((a1.getD k_0 (default:Deed)).parts).length≤aU→((jU ((((a1.getD k_0 (default:Deed)).parts).getD k_1 (default:Part)).share) (s_0.2.getD (Int.toNat ((a1.getD k_0 (default:Deed)).since)) (0:Int)))∧((0≤(((a1.getD k_0 (default:Deed)).parts).getD k_1 (default:Part)).farm∧(((a1.getD k_0 (default:Deed)).parts).getD k_1 (default:Part)).farm< (s_1.1.length:Int))∧(0≤(((a1.getD k_0 (default:Deed)).parts).getD k_1 (default:Part)).farm∧(((a1.getD k_0 (default:Deed)).parts).getD k_1 (default:Part)).farm< (s_1.1.length:Int)))))
@[go_sem] def km (a1:List Deed)(k_0:Nat)(s_1:List Int×Int)(k_2:Nat)(s_2:List Int):Empty⊕(List Int):=.inr (s_2.set (Int.toNat ((((a1.getD k_0 (default:Deed)).parts).getD k_2 (default:Part)).farm)) (i64.wrap ((s_2.getD (Int.toNat ((((a1.getD k_0 (default:Deed)).parts).getD k_2 (default:Part)).farm)) (0:Int))+1)))
def iI (a1:List Deed)(k_0:Nat)(s_1:List Int×Int)(k_2:Nat)(s_2:List Int):Prop:=((0≤(k_2:Int)∧(k_2:Int) < (((a1.getD k_0 (default:Deed)).parts).length:Int))∧((0≤(((a1.getD k_0 (default:Deed)).parts).getD k_2 (default:Part)).farm∧(((a1.getD k_0 (default:Deed)).parts).getD k_2 (default:Part)).farm< (s_2.length:Int))∧(0≤(((a1.getD k_0 (default:Deed)).parts).getD k_2 (default:Part)).farm∧(((a1.getD k_0 (default:Deed)).parts).getD k_2 (default:Part)).farm< (s_2.length:Int))))
@[go_sem] def fo (a1:List Deed)(a2:Int)(k_0:Nat)(s_0:List Int×List Int):Empty⊕(List Int×List Int):=(bif((a1.getD k_0 (default:Deed)).right !=a2)then .inr (s_0.1,s_0.2)else(bif((s_0.2.getD (Int.toNat ((a1.getD k_0 (default:Deed)).since)) (0:Int)) ==0)then .inr ((s_0.1++([(a1.getD k_0 (default:Deed)).no])),s_0.2)else(bif((a1.getD k_0 (default:Deed)).kind==2)then(match am (cG a1 k_0 s_0) (((a1.getD k_0 (default:Deed)).parts).length) 0 ((bif((a1.getD k_0 (default:Deed)).kind==1)then((s_0.2.set (Int.toNat ((a1.getD k_0 (default:Deed)).since)) 0).set (Int.toNat ((a1.getD k_0 (default:Deed)).to)) (i64.wrap (((s_0.2.set (Int.toNat ((a1.getD k_0 (default:Deed)).since)) 0).getD (Int.toNat ((a1.getD k_0 (default:Deed)).to)) (0:Int))+(s_0.2.getD (Int.toNat ((a1.getD k_0 (default:Deed)).since)) (0:Int)))))else(s_0.2.set (Int.toNat ((a1.getD k_0 (default:Deed)).since)) 0)),(s_0.2.getD (Int.toNat ((a1.getD k_0 (default:Deed)).since)) (0:Int)))with| .inl x=>x.elim| .inr s_1=>(match am (km a1 k_0 s_1) (Int.toNat s_1.2) 0 s_1.1 with| .inl x=>x.elim| .inr s_2=>.inr (s_0.1,s_2)))else .inr (s_0.1,(bif((a1.getD k_0 (default:Deed)).kind==1)then((s_0.2.set (Int.toNat ((a1.getD k_0 (default:Deed)).since)) 0).set (Int.toNat ((a1.getD k_0 (default:Deed)).to)) (i64.wrap (((s_0.2.set (Int.toNat ((a1.getD k_0 (default:Deed)).since)) 0).getD (Int.toNat ((a1.getD k_0 (default:Deed)).to)) (0:Int))+(s_0.2.getD (Int.toNat ((a1.getD k_0 (default:Deed)).since)) (0:Int)))))else(s_0.2.set (Int.toNat ((a1.getD k_0 (default:Deed)).since)) 0))))))
def fh (a1:List Deed)(a2:Int)(k_0:Nat)(s_0:List Int×List Int):Prop:=(a1.length≤aU→(((a1.getD k_0 (default:Deed)).right !=a2)=false→((0≤(a1.getD k_0 (default:Deed)).since∧(a1.getD k_0 (default:Deed)).since< (s_0.2.length:Int))∧((((s_0.2.getD (Int.toNat ((a1.getD k_0 (default:Deed)).since)) (0:Int)) ==0)=true→((s_0.1++([(a1.getD k_0 (default:Deed)).no])).length*8≤d5))∧(((s_0.2.getD (Int.toNat ((a1.getD k_0 (default:Deed)).since)) (0:Int)) ==0)=false→((0≤(a1.getD k_0 (default:Deed)).since∧(a1.getD k_0 (default:Deed)).since< (s_0.2.length:Int))∧((((a1.getD k_0 (default:Deed)).kind==1)=true→((0≤(a1.getD k_0 (default:Deed)).to∧(a1.getD k_0 (default:Deed)).to< ((s_0.2.set (Int.toNat ((a1.getD k_0 (default:Deed)).since)) 0).length:Int))∧(0≤(a1.getD k_0 (default:Deed)).to∧(a1.getD k_0 (default:Deed)).to< ((s_0.2.set (Int.toNat ((a1.getD k_0 (default:Deed)).since)) 0).length:Int))))∧(((a1.getD k_0 (default:Deed)).kind==2)=true→(okI (cG a1 k_0 s_0) (iH a1 k_0 s_0) (((a1.getD k_0 (default:Deed)).parts).length) 0 ((bif((a1.getD k_0 (default:Deed)).kind==1)then((s_0.2.set (Int.toNat ((a1.getD k_0 (default:Deed)).since)) 0).set (Int.toNat ((a1.getD k_0 (default:Deed)).to)) (i64.wrap (((s_0.2.set (Int.toNat ((a1.getD k_0 (default:Deed)).since)) 0).getD (Int.toNat ((a1.getD k_0 (default:Deed)).to)) (0:Int))+(s_0.2.getD (Int.toNat ((a1.getD k_0 (default:Deed)).since)) (0:Int)))))else(s_0.2.set (Int.toNat ((a1.getD k_0 (default:Deed)).since)) 0)),(s_0.2.getD (Int.toNat ((a1.getD k_0 (default:Deed)).since)) (0:Int)))∧(∀ s_1,am (cG a1 k_0 s_0) (((a1.getD k_0 (default:Deed)).parts).length) 0 ((bif((a1.getD k_0 (default:Deed)).kind==1)then((s_0.2.set (Int.toNat ((a1.getD k_0 (default:Deed)).since)) 0).set (Int.toNat ((a1.getD k_0 (default:Deed)).to)) (i64.wrap (((s_0.2.set (Int.toNat ((a1.getD k_0 (default:Deed)).since)) 0).getD (Int.toNat ((a1.getD k_0 (default:Deed)).to)) (0:Int))+(s_0.2.getD (Int.toNat ((a1.getD k_0 (default:Deed)).since)) (0:Int)))))else(s_0.2.set (Int.toNat ((a1.getD k_0 (default:Deed)).since)) 0)),(s_0.2.getD (Int.toNat ((a1.getD k_0 (default:Deed)).since)) (0:Int)))=.inr s_1→((s_1.2<9223372036854775808)∧okI (km a1 k_0 s_1) (iI a1 k_0 s_1) (Int.toNat s_1.2) 0 s_1.1)))))))))))
def cy (a0:District)(a1:List Deed)(a2:Int):List Int×List Int:=(match am (fo a1 a2) a1.length 0 ([],((List.replicate (Int.toNat (a0.farms.length:Int)) (0:Int)).set (Int.toNat ((a0.rights.getD (Int.toNat a2) (default:Right)).farm)) (a0.rights.getD (Int.toNat a2) (default:Right)).litres))with| .inl x=>x.elim| .inr s_0=>(s_0.2,s_0.1))
def lz (a0:District)(a1:List Deed)(a2:Int):Prop:=(a0.farms.length≤aU→(((a0.farms.length:Int)=(a0.farms.length:Int)∧0≤(a0.farms.length:Int)∧(a0.farms.length:Int)*((8:Nat):Int)≤((d5:Nat):Int))∧((a0.farms.length:Int)≤((aU:Nat):Int)→((0≤a2∧a2< (a0.rights.length:Int))∧((0≤a2∧a2< (a0.rights.length:Int))∧((0≤(a0.rights.getD (Int.toNat a2) (default:Right)).farm∧(a0.rights.getD (Int.toNat a2) (default:Right)).farm< ((List.replicate (Int.toNat (a0.farms.length:Int)) (0:Int)).length:Int))∧okI (fo a1 a2) (fh a1 a2) a1.length 0 ([],((List.replicate (Int.toNat (a0.farms.length:Int)) (0:Int)).set (Int.toNat ((a0.rights.getD (Int.toNat a2) (default:Right)).farm)) (a0.rights.getD (Int.toNat a2) (default:Right)).litres))))))))
@[go_sem] def sF:List SV→Option Con:=(pD .district fun a0=>(pR .deed fun a1=>(pI fun a2=>(pE (.det (lz a0 a1 a2) (.tup [.nw .int ((cy a0 a1 a2).1),.nw .int ((cy a0 a1 a2).2)]))))))
theorem yj:FnOk Tryz.prog 92 sF:=by
 have hG:ConsOk Tryz.prog (mkG [(135,t_)] []):=ap (cgc zW cg0) cg0;refine iT [(.tmp 6,.int),(.tmp 7,.int)] mixed aj hG (fn:=Tryz.f92) (c:=ae Tryz.f92) kr kr kr kr (aI fun a0=>(cI fun a1=>(aM fun a2=>(aw (fun hp=>?_)))));dsimp only[av]at hp;unfold lz at hp;refine⟨nbl rfl,(fun id st=>bif Nat.beq id 0 then some (LCR (ρ:=Empty) (σ:=(List Int×List Int)) 2 [.slot 9 (.row .int ([]))] [0,1,2] (fun k_0 s_0=>⟨[(1,.rs .deed a1),(2,.v (.int .i64 a2)),(8,.os 1),(9,.os 2),(10,.v (.int .i64 (k_0:Int)))],[.dead,.row .int s_0.2,.row .int s_0.1]⟩) (fo a1 a2) (fh a1 a2) a1.length ([],((List.replicate (Int.toNat (a0.farms.length:Int)) (0:Int)).set (Int.toNat ((a0.rights.getD (Int.toNat a2) (default:Right)).farm)) (a0.rights.getD (Int.toNat a2) (default:Right)).litres)) (True) ((·.elim)) ((·.elim)) st)else none),?_,?_⟩
 ·unfold ae Tryz.f92;simp only[al,true_and,and_true]
  ·refine c7 (a1.length≤aU) mixed aj hG kr (fun _=>rfl) (a1.length:Int) rfl fK (fun hb0 k_0 s_0 hlt0 hq0 hw hc=>⟨(fun id st=>bif Nat.beq id 1000069 then some (JC (⟨[(1,.rs .deed a1),(2,.v (.int .i64 a2)),(8,.os 1),(9,.os 2),(10,.v (.int .i64 (k_0:Int))),(11,.ptr 3 0),(12,.v (.int .i64 (s_0.2.getD (Int.toNat ((a1.getD k_0 (default:Deed)).since)) (0:Int))))],[.dead,.row .int (bif((a1.getD k_0 (default:Deed)).kind==1)then((s_0.2.set (Int.toNat ((a1.getD k_0 (default:Deed)).since)) 0).set (Int.toNat ((a1.getD k_0 (default:Deed)).to)) (i64.wrap (((s_0.2.set (Int.toNat ((a1.getD k_0 (default:Deed)).since)) 0).getD (Int.toNat ((a1.getD k_0 (default:Deed)).to)) (0:Int))+(s_0.2.getD (Int.toNat ((a1.getD k_0 (default:Deed)).since)) (0:Int)))))else(s_0.2.set (Int.toNat ((a1.getD k_0 (default:Deed)).since)) 0)),.row .int s_0.1,.cells (cellsOf .deed (a1.getD k_0 (default:Deed)))]⟩))else bif Nat.beq id 2 then some (LCR (ρ:=Empty) (σ:=(List Int×Int)) 4 [] [0,1,2,3] (fun k_1 s_1=>⟨[(1,.rs .deed a1),(2,.v (.int .i64 a2)),(8,.os 1),(9,.os 2),(10,.v (.int .i64 (k_0:Int))),(11,.ptr 3 0),(12,.v (.int .i64 (s_0.2.getD (Int.toNat ((a1.getD k_0 (default:Deed)).since)) (0:Int)))),(13,.v (.int .i64 s_1.2)),(14,.v (.int .i64 (k_1:Int)))],[.dead,.row .int s_1.1,.row .int s_0.1,.cells (cellsOf .deed (a1.getD k_0 (default:Deed)))]⟩) (cG a1 k_0 s_0) (iH a1 k_0 s_0) (((a1.getD k_0 (default:Deed)).parts).length) ((bif((a1.getD k_0 (default:Deed)).kind==1)then((s_0.2.set (Int.toNat ((a1.getD k_0 (default:Deed)).since)) 0).set (Int.toNat ((a1.getD k_0 (default:Deed)).to)) (i64.wrap (((s_0.2.set (Int.toNat ((a1.getD k_0 (default:Deed)).since)) 0).getD (Int.toNat ((a1.getD k_0 (default:Deed)).to)) (0:Int))+(s_0.2.getD (Int.toNat ((a1.getD k_0 (default:Deed)).since)) (0:Int)))))else(s_0.2.set (Int.toNat ((a1.getD k_0 (default:Deed)).since)) 0)),(s_0.2.getD (Int.toNat ((a1.getD k_0 (default:Deed)).since)) (0:Int))) (True) ((·.elim)) ((·.elim)) st)else bif Nat.beq id 4 then some (LCR (ρ:=Empty) (σ:=(List Int)) 4 [] [0,1,2,3] (fun k_2 s_2=>⟨[(1,.rs .deed a1),(2,.v (.int .i64 a2)),(8,.os 1),(9,.os 2),(10,.v (.int .i64 (k_0:Int))),(11,.ptr 3 0),(13,.v (.int .i64 (dy (am (cG a1 k_0 s_0) (((a1.getD k_0 (default:Deed)).parts).length) 0 ((bif((a1.getD k_0 (default:Deed)).kind==1)then((s_0.2.set (Int.toNat ((a1.getD k_0 (default:Deed)).since)) 0).set (Int.toNat ((a1.getD k_0 (default:Deed)).to)) (i64.wrap (((s_0.2.set (Int.toNat ((a1.getD k_0 (default:Deed)).since)) 0).getD (Int.toNat ((a1.getD k_0 (default:Deed)).to)) (0:Int))+(s_0.2.getD (Int.toNat ((a1.getD k_0 (default:Deed)).since)) (0:Int)))))else(s_0.2.set (Int.toNat ((a1.getD k_0 (default:Deed)).since)) 0)),(s_0.2.getD (Int.toNat ((a1.getD k_0 (default:Deed)).since)) (0:Int))))).2)),(18,.v (.int .i64 (k_2:Int)))],[.dead,.row .int s_2,.row .int s_0.1,.cells (cellsOf .deed (a1.getD k_0 (default:Deed)))]⟩) (km a1 k_0 (dy (am (cG a1 k_0 s_0) (((a1.getD k_0 (default:Deed)).parts).length) 0 ((bif((a1.getD k_0 (default:Deed)).kind==1)then((s_0.2.set (Int.toNat ((a1.getD k_0 (default:Deed)).since)) 0).set (Int.toNat ((a1.getD k_0 (default:Deed)).to)) (i64.wrap (((s_0.2.set (Int.toNat ((a1.getD k_0 (default:Deed)).since)) 0).getD (Int.toNat ((a1.getD k_0 (default:Deed)).to)) (0:Int))+(s_0.2.getD (Int.toNat ((a1.getD k_0 (default:Deed)).since)) (0:Int)))))else(s_0.2.set (Int.toNat ((a1.getD k_0 (default:Deed)).since)) 0)),(s_0.2.getD (Int.toNat ((a1.getD k_0 (default:Deed)).since)) (0:Int)))))) (iI a1 k_0 (dy (am (cG a1 k_0 s_0) (((a1.getD k_0 (default:Deed)).parts).length) 0 ((bif((a1.getD k_0 (default:Deed)).kind==1)then((s_0.2.set (Int.toNat ((a1.getD k_0 (default:Deed)).since)) 0).set (Int.toNat ((a1.getD k_0 (default:Deed)).to)) (i64.wrap (((s_0.2.set (Int.toNat ((a1.getD k_0 (default:Deed)).since)) 0).getD (Int.toNat ((a1.getD k_0 (default:Deed)).to)) (0:Int))+(s_0.2.getD (Int.toNat ((a1.getD k_0 (default:Deed)).since)) (0:Int)))))else(s_0.2.set (Int.toNat ((a1.getD k_0 (default:Deed)).since)) 0)),(s_0.2.getD (Int.toNat ((a1.getD k_0 (default:Deed)).since)) (0:Int)))))) (Int.toNat (dy (am (cG a1 k_0 s_0) (((a1.getD k_0 (default:Deed)).parts).length) 0 ((bif((a1.getD k_0 (default:Deed)).kind==1)then((s_0.2.set (Int.toNat ((a1.getD k_0 (default:Deed)).since)) 0).set (Int.toNat ((a1.getD k_0 (default:Deed)).to)) (i64.wrap (((s_0.2.set (Int.toNat ((a1.getD k_0 (default:Deed)).since)) 0).getD (Int.toNat ((a1.getD k_0 (default:Deed)).to)) (0:Int))+(s_0.2.getD (Int.toNat ((a1.getD k_0 (default:Deed)).since)) (0:Int)))))else(s_0.2.set (Int.toNat ((a1.getD k_0 (default:Deed)).since)) 0)),(s_0.2.getD (Int.toNat ((a1.getD k_0 (default:Deed)).since)) (0:Int))))).2) ((dy (am (cG a1 k_0 s_0) (((a1.getD k_0 (default:Deed)).parts).length) 0 ((bif((a1.getD k_0 (default:Deed)).kind==1)then((s_0.2.set (Int.toNat ((a1.getD k_0 (default:Deed)).since)) 0).set (Int.toNat ((a1.getD k_0 (default:Deed)).to)) (i64.wrap (((s_0.2.set (Int.toNat ((a1.getD k_0 (default:Deed)).since)) 0).getD (Int.toNat ((a1.getD k_0 (default:Deed)).to)) (0:Int))+(s_0.2.getD (Int.toNat ((a1.getD k_0 (default:Deed)).since)) (0:Int)))))else(s_0.2.set (Int.toNat ((a1.getD k_0 (default:Deed)).since)) 0)),(s_0.2.getD (Int.toNat ((a1.getD k_0 (default:Deed)).since)) (0:Int))))).1) ((dy (am (cG a1 k_0 s_0) (((a1.getD k_0 (default:Deed)).parts).length) 0 ((bif((a1.getD k_0 (default:Deed)).kind==1)then((s_0.2.set (Int.toNat ((a1.getD k_0 (default:Deed)).since)) 0).set (Int.toNat ((a1.getD k_0 (default:Deed)).to)) (i64.wrap (((s_0.2.set (Int.toNat ((a1.getD k_0 (default:Deed)).since)) 0).getD (Int.toNat ((a1.getD k_0 (default:Deed)).to)) (0:Int))+(s_0.2.getD (Int.toNat ((a1.getD k_0 (default:Deed)).since)) (0:Int)))))else(s_0.2.set (Int.toNat ((a1.getD k_0 (default:Deed)).since)) 0)),(s_0.2.getD (Int.toNat ((a1.getD k_0 (default:Deed)).since)) (0:Int))))).2<9223372036854775808) ((·.elim)) ((·.elim)) st)else none),?_,?_⟩) (fun hb0 s_0 hc=>?_) fun hb0 k_0 s_0=>?_
   ·simp only[al,true_and,and_true];refine⟨?_,?_⟩
    ·refine c7 (((a1.getD k_0 (default:Deed)).parts).length≤aU) mixed aj hG kr (fun _=>rfl) (((a1.getD k_0 (default:Deed)).parts).length:Int) rfl fK (fun hb1 k_1 s_1 hlt1 hq1 hw hc=>⟨L0,ag _,?_⟩) (fun hb1 s_1 hc=>?_) fun hb1 k_1 s_1=>?_
     ·unfold iH at hq1;try simp only[hw,Int.toNat_natCast]at hq1
      exact ER (jl [0,1,2,3])
     ·exact ES (jl [0,1,2,3])
     ·exact G1
    ·refine dp mixed aj hG kr (fun _=>rfl) ((dy (am (cG a1 k_0 s_0) (((a1.getD k_0 (default:Deed)).parts).length) 0 ((bif((a1.getD k_0 (default:Deed)).kind==1)then((s_0.2.set (Int.toNat ((a1.getD k_0 (default:Deed)).since)) 0).set (Int.toNat ((a1.getD k_0 (default:Deed)).to)) (i64.wrap (((s_0.2.set (Int.toNat ((a1.getD k_0 (default:Deed)).since)) 0).getD (Int.toNat ((a1.getD k_0 (default:Deed)).to)) (0:Int))+(s_0.2.getD (Int.toNat ((a1.getD k_0 (default:Deed)).since)) (0:Int)))))else(s_0.2.set (Int.toNat ((a1.getD k_0 (default:Deed)).since)) 0)),(s_0.2.getD (Int.toNat ((a1.getD k_0 (default:Deed)).since)) (0:Int))))).2) rfl id (fun hb2 k_2 s_2 hlt2 hq2 hw hc=>⟨L0,ag _,?_⟩) (fun hb2 s_2 hc=>?_)
     ·unfold iI at hq2;try simp only[hw,Int.toNat_natCast]at hq2
      exact ER (jl [0,1,2,3])
     ·exact ES (jl [0,1,2,3])
   ·unfold fh at hq0;try simp only[hw,Int.toNat_natCast]at hq0
    exact Ab (jl [0,1,2]) (jl [0,1,5])
   ·exact Ac (jl [0,1,2]) (jl [0,1,5])
   ·exact zq7
 ·unfold ae Tryz.f92;try unfold cy
  exact zq1
@[go_sem] def kQ (a0:District)(a1:List Deed)(a2:Int)(a3:Int)(k_0:Nat)(k_1:Nat)(s_1:List Holding):Empty⊕(List Holding):=(bif(decide ((((cy a0 (bB a1 a2 a3) (k_0:Int)).1).getD k_1 (0:Int)) > 0))then .inr (s_1++([({ right:=(k_0:Int),farm:=(k_1:Int),litres:=(((cy a0 (bB a1 a2 a3) (k_0:Int)).1).getD k_1 (0:Int)),rank:=(a0.rights.getD k_0 (default:Right)).rank}:Holding)]))else .inr s_1)
def jY (a0:District)(a1:List Deed)(a2:Int)(a3:Int)(k_0:Nat)(k_1:Nat)(s_1:List Holding):Prop:=(((cy a0 (bB a1 a2 a3) (k_0:Int)).1).length≤aU→((decide ((((cy a0 (bB a1 a2 a3) (k_0:Int)).1).getD k_1 (0:Int)) > 0))=true→((s_1++([({ right:=(k_0:Int),farm:=(k_1:Int),litres:=(((cy a0 (bB a1 a2 a3) (k_0:Int)).1).getD k_1 (0:Int)),rank:=(a0.rights.getD k_0 (default:Right)).rank}:Holding)])).length*32≤d5)))
@[go_sem] def kR (a0:District)(a1:List Deed)(a2:Int)(a3:Int)(k_0:Nat)(s_0:List Holding):Empty⊕(List Holding):=(bif((a0.rights.getD k_0 (default:Right)).kind !=1)then .inr s_0 else(match am (kQ a0 a1 a2 a3 k_0) (((cy a0 (bB a1 a2 a3) (k_0:Int)).1).length) 0 s_0 with| .inl x=>x.elim| .inr s_1=>.inr s_1))
def jZ (a0:District)(a1:List Deed)(a2:Int)(a3:Int)(k_0:Nat)(s_0:List Holding):Prop:=(a0.rights.length≤aU→(((a0.rights.getD k_0 (default:Right)).kind !=1)=false→((lz a0 (bB a1 a2 a3) (k_0:Int))∧okI (kQ a0 a1 a2 a3 k_0) (jY a0 a1 a2 a3 k_0) (((cy a0 (bB a1 a2 a3) (k_0:Int)).1).length) 0 s_0)))
def c8 (a0:District)(a1:List Deed)(a2:Int)(a3:Int):List Holding×Int:=(bif((gl a0 a1) !=0)then([],(gl a0 a1))else(bif((((decide (a2<0)) ||(decide (a2≥a0.hours))) ||(decide (a3<0))) ||(decide (a3 > 1048576)))then([],1)else(match am (kR a0 a1 a2 a3) a0.rights.length 0 ([])with| .inl x=>x.elim| .inr s_0=>(s_0,0))))
def oR (a0:District)(a1:List Deed)(a2:Int)(a3:Int):Prop:=((jX a0 a1)∧(((gl a0 a1) !=0)=false→(((((decide (a2<0)) ||(decide (a2≥a0.hours))) ||(decide (a3<0))) ||(decide (a3 > 1048576)))=false→((gM a1 a2 a3)∧okI (kR a0 a1 a2 a3) (jZ a0 a1 a2 a3) a0.rights.length 0 ([])))))
@[go_sem] def Ad:List SV→Option Con:=(pD .district fun a0=>(pR .deed fun a1=>(pI fun a2=>(pI fun a3=>(pE (.det (oR a0 a1 a2 a3) (.tup [.nw .holding ((c8 a0 a1 a2 a3).1),.v (.int .i64 ((c8 a0 a1 a2 a3).2))])))))))
theorem ET:FnOk Tryz.prog 58 Ad:=by
 have hG:ConsOk Tryz.prog (mkG [(57,fun l=>pz (cn [.st .district,.sl .deed] l)),(91,fun l=>qp (cn [.sl .deed,.o,.o] l)),(92,fun l=>sF (cn [.st .district,.sl .deed,.o] l))] []):=ap (cgc (sE.norm [.st .district,.sl .deed]) (cgc (vV.norm [.sl .deed,.o,.o]) (cgc (yj.norm [.st .district,.sl .deed,.o]) cg0))) cg0;refine iT [(.tmp 8,.holding)] mixed aj hG (fn:=Tryz.f58) (c:=ae Tryz.f58) kr kr kr kr (aI fun a0=>(cI fun a1=>(aM fun a2=>(aM fun a3=>(aw (fun hp=>?_))))));dsimp only[av]at hp;unfold oR at hp;refine⟨nbl rfl,(fun id st=>bif Nat.beq id 0 then some (LCR (ρ:=Empty) (σ:=(List Holding)) 2 [.slot 12 (.row .holding ([]))] [0,1,2] (fun k_0 s_0=>⟨[(4,.ptr 0 0),(11,.os 1),(12,.os 2),(13,.v (.int .i64 (k_0:Int)))],[.cells (cellsOf .district a0),.row .deed (bB a1 a2 a3),.row .holding s_0]⟩) (kR a0 a1 a2 a3) (jZ a0 a1 a2 a3) a0.rights.length ([]) (True) ((·.elim)) ((·.elim)) st)else none),?_,?_⟩
 ·unfold ae Tryz.f58;simp only[al,true_and,and_true]
  ·refine c7 (a0.rights.length≤aU) mixed aj hG kr (fun _=>rfl) (a0.rights.length:Int) rfl fK (fun hb0 k_0 s_0 hlt0 hq0 hw hc=>⟨(fun id st=>bif Nat.beq id 2 then some (LCR (ρ:=Empty) (σ:=(List Holding)) 5 [] [0,1,2,3,4,2] (fun k_1 s_1=>⟨[(4,.ptr 0 0),(11,.os 1),(12,.os 5),(13,.v (.int .i64 (k_0:Int))),(14,.os 3),(16,.v (.int .i64 (k_1:Int)))],[.cells (cellsOf .district a0),.row .deed (bB a1 a2 a3),.dead,.row .int ((cy a0 (bB a1 a2 a3) (k_0:Int)).1),.dead,.row .holding s_1]⟩) (kQ a0 a1 a2 a3 k_0) (jY a0 a1 a2 a3 k_0) (((cy a0 (bB a1 a2 a3) (k_0:Int)).1).length) s_0 (True) ((·.elim)) ((·.elim)) st)else none),?_,?_⟩) (fun hb0 s_0 hc=>?_) fun hb0 k_0 s_0=>?_
   ·simp only[al,true_and,and_true]
    ·refine c7 (((cy a0 (bB a1 a2 a3) (k_0:Int)).1).length≤aU) mixed aj hG kr (fun _=>rfl) (((cy a0 (bB a1 a2 a3) (k_0:Int)).1).length:Int) rfl fK (fun hb1 k_1 s_1 hlt1 hq1 hw hc=>⟨L0,ag _,?_⟩) (fun hb1 s_1 hc=>?_) fun hb1 k_1 s_1=>?_
     ·unfold jY at hq1;try simp only[hw,Int.toNat_natCast]at hq1
      exact Ab (jl [0,1,2,3,4,7]) (jl [0,1,2,3,4,5])
     ·exact Ac (jl [0,1,2,3,4,7]) (jl [0,1,2,3,4,5])
     ·exact G1
   ·unfold jZ at hq0;try simp only[hw,Int.toNat_natCast]at hq0
    exact Ab (jl [0,1,2]) (jl [0,1,5])
   ·exact Ac (jl [0,1,2]) (jl [0,1,5])
   ·exact zq7
 ·unfold ae Tryz.f58;try unfold c8
  exact zq1
@[go_sem] def vW (l_:List Deed)(k_0:Nat)(s_0:Unit):Unit⊕Unit:=(bif(decide ((((l_.getD k_0 (default:Deed)).parts).length:Int) > 100))then .inl ()else .inr ())
def w5 (d:District)(l_:List Deed):Bool:=(bif((decide ((l_.length:Int) > 512))&&(decide ((l_.length:Int)≤700)))then(tn d)else(bif((((decide ((l_.length:Int) > 60)) ||(!(tn d))) ||((decide ((d.rights.length:Int) > 40))&&(decide ((d.rights.length:Int)≤256)))) ||((decide ((d.farms.length:Int) > 60))&&(decide ((d.farms.length:Int)≤600))))then false else(match am (vW l_) l_.length 0 ()with| .inl x_0_0=>false| .inr s_0=>true)))
@[go_sem] def xH:List SV→Option Con:=(pD .district fun d=>(pR .deed fun l_=>(pE (.det True (.v (.bool (w5 d l_)))))))
theorem Di:FnOk Tryz.prog 28 xH:=by
 have hG:ConsOk Tryz.prog (mkG [(33,fun l=>xE (cn [.st .district] l))] []):=ap (cgc (Df.norm [.st .district]) cg0) cg0;refine aL [.o] mixed aj hG (fn:=Tryz.f28) (c:=ae Tryz.f28) kr kr kr kr (aI fun d=>(cI fun l_=>(aw (fun hp=>?_))));dsimp only[av]at hp;refine⟨nbl rfl,(fun id st=>bif Nat.beq id 0 then some (LCR (ρ:=Unit) (σ:=Unit) 1 [] [0] (fun k_0 s_0=>⟨[(1,.rs .deed l_),(5,.v (.int .i64 (k_0:Int)))],[.dead]⟩) (vW l_) pT l_.length () (True) (fun _=>.ret) (fun x_0_0=>⟨[(4,.v (.bool false))],[.dead]⟩) st)else none),?_,?_⟩
 ·unfold ae Tryz.f28;simp only[al,true_and,and_true]
  ·refine c7 (l_.length≤aU) mixed aj hG kr (fun _=>rfl) (l_.length:Int) rfl fK (fun hb0 k_0 s_0 hlt0 _ hw hc=>⟨L0,ag _,?_⟩) (fun hb0 s_0 hc=>?_) fun hb0 k_0 s_0=>?_
   ·exact bF (jl [0])
   ·exact bG (jl [0])
   ·exact zq7
 ·unfold ae Tryz.f28;try unfold w5
  exact zq1
def ph (a0:District)(a1:Claim):Bool:=(bif((((((((decide (a1.right<0)) ||(decide (a1.right≥(a0.rights.length:Int)))) ||(decide (a1.farm<0))) ||(decide (a1.farm≥(a0.farms.length:Int)))) ||(decide (a1.hour<0))) ||(decide (a1.hour≥a0.hours))) ||(decide (a1.litres<1))) ||(decide (a1.litres > 1073741824)))then false else(((a0.rights.getD (Int.toNat a1.right) (default:Right)).kind==1)&&((a0.rights.getD (Int.toNat a1.right) (default:Right)).rank==a1.rank)))
def pA (a0:District)(a1:Claim):Prop:=(((((((((decide (a1.right<0)) ||(decide (a1.right≥(a0.rights.length:Int)))) ||(decide (a1.farm<0))) ||(decide (a1.farm≥(a0.farms.length:Int)))) ||(decide (a1.hour<0))) ||(decide (a1.hour≥a0.hours))) ||(decide (a1.litres<1))) ||(decide (a1.litres > 1073741824)))=false→((0≤a1.right∧a1.right< (a0.rights.length:Int))∧(((a0.rights.getD (Int.toNat a1.right) (default:Right)).kind==1)=true→(0≤a1.right∧a1.right< (a0.rights.length:Int)))))
@[go_sem] def uh:List SV→Option Con:=(pD .district fun a0=>(pD .claim fun a1=>(pE (.det (pA a0 a1) (.v (.bool (ph a0 a1)))))))
theorem Ae:FnOk Tryz.prog 37 uh:=by
 have hG:ConsOk Tryz.prog (mkG [] []):=ap cg0 cg0;refine aL [.o] mixed aj hG (fn:=Tryz.f37) (c:=ae Tryz.f37) kr kr kr kr (aI fun a0=>(aI fun a1=>(aw (fun hp=>?_))));dsimp only[av]at hp;unfold pA at hp;refine⟨nbl rfl,L0,ag _,?_⟩
 ·unfold ae Tryz.f37;try unfold ph
  exact zq1
def jx (a:Claim)(b:Claim):Bool:=(bif(a.hour !=b.hour)then(decide (a.hour<b.hour))else(bif(a.rank !=b.rank)then(decide (a.rank<b.rank))else(bif(a.right !=b.right)then(decide (a.right<b.right))else(decide (a.farm<b.farm)))))
@[go_sem] def oS:List SV→Option Con:=(pD .claim fun a=>(pD .claim fun b=>(pE (.det True (.v (.bool (jx a b)))))))
theorem rF:FnOk Tryz.prog 38 oS:=by
 have hG:ConsOk Tryz.prog (mkG [] []):=ap cg0 cg0;refine aL [.o] mixed aj hG (fn:=Tryz.f38) (c:=ae Tryz.f38) kr kr kr kr (aI fun a=>(aI fun b=>(aw (fun hp=>?_))));dsimp only[av]at hp;refine⟨nbl rfl,L0,ag _,?_⟩
 ·unfold ae Tryz.f38;try unfold jx
  exact zq1
@[go_sem] def oT (d:District)(c:List Claim)(k_0:Nat)(s_0:Unit):Unit⊕Unit:=(bif((!(ph d (c.getD k_0 (default:Claim)))) ||((decide ((k_0:Int) > 0))&&(!(jx (c.getD (Int.toNat (i64.wrap ((k_0:Int) - 1))) (default:Claim)) (c.getD k_0 (default:Claim))))))then .inl ()else .inr ())
def ml (d:District)(c:List Claim)(k_0:Nat)(s_0:Unit):Prop:=(c.length≤aU→((pA d (c.getD k_0 (default:Claim)))∧((!(ph d (c.getD k_0 (default:Claim))))=false→((decide ((k_0:Int) > 0))=true→(0≤(i64.wrap ((k_0:Int) - 1))∧(i64.wrap ((k_0:Int) - 1)) < (c.length:Int))))))
def xI (d:District)(c:List Claim):Int:=(bif((fH d) !=0)then(fH d)else(bif(decide ((c.length:Int) > 4096))then 2 else(match am (oT d c) c.length 0 ()with| .inl x_0_0=>260| .inr s_0=>0)))
def ui (d:District)(c:List Claim):Prop:=((jW d)∧(((fH d) !=0)=false→(c.length≤aU→((decide ((c.length:Int) > 4096))=false→okI (oT d c) (ml d c) c.length 0 ()))))
@[go_sem] def Ba:List SV→Option Con:=(pD .district fun d=>(pR .claim fun c=>(pE (.det (ui d c) (.v (.int .i64 (xI d c)))))))
theorem LX:FnOk Tryz.prog 20 Ba:=by
 have hG:ConsOk Tryz.prog (mkG [(36,fun l=>py (cn [.st .district] l)),(37,fun l=>uh (cn [.st .district,.st .claim] l)),(38,oS)] []):=ap (cgc (sB.norm [.st .district]) (cgc (Ae.norm [.st .district,.st .claim]) (cgc rF cg0))) cg0;refine aL [.o] mixed aj hG (fn:=Tryz.f20) (c:=ae Tryz.f20) kr kr kr kr (aI fun d=>(cI fun c=>(aw (fun hp=>?_))));dsimp only[av]at hp;unfold ui at hp;refine⟨nbl rfl,(fun id st=>bif Nat.beq id 0 then some (LCR (ρ:=Unit) (σ:=Unit) 1 [] [0] (fun k_0 s_0=>⟨[(1,.rs .claim c),(2,.ptr 0 0),(6,.v (.int .i64 (k_0:Int)))],[.cells (cellsOf .district d)]⟩) (oT d c) (ml d c) c.length () (True) (fun _=>.ret) (fun x_0_0=>⟨[(4,.v (.int .i64 260))],[.dead]⟩) st)else none),?_,?_⟩
 ·unfold ae Tryz.f20;simp only[al,true_and,and_true]
  ·refine c7 (c.length≤aU) mixed aj hG kr (fun _=>rfl) (c.length:Int) rfl fK (fun hb0 k_0 s_0 hlt0 hq0 hw hc=>⟨L0,ag _,?_⟩) (fun hb0 s_0 hc=>?_) fun hb0 k_0 s_0=>?_
   ·unfold ml at hq0;try simp only[hw,Int.toNat_natCast]at hq0
    exact bF (jl [0])
   ·exact bG (jl [0])
   ·exact zq7
 ·unfold ae Tryz.f20;try unfold xI
  exact zq1
@[go_sem] def j5 (a:List Claim)(b:List Claim)(k_0:Nat)(s_0:Unit):Unit⊕Unit:=(bif(!(((a.getD k_0 (default:Claim)).right==(b.getD k_0 (default:Claim)).right)&&(((a.getD k_0 (default:Claim)).farm==(b.getD k_0 (default:Claim)).farm)&&(((a.getD k_0 (default:Claim)).hour==(b.getD k_0 (default:Claim)).hour)&&(((a.getD k_0 (default:Claim)).litres==(b.getD k_0 (default:Claim)).litres)&&((a.getD k_0 (default:Claim)).rank==(b.getD k_0 (default:Claim)).rank))))))then .inl ()else .inr ())
def nN (a:List Claim)(b:List Claim)(k_0:Nat)(s_0:Unit):Prop:=(a.length≤aU→(0≤(k_0:Int)∧(k_0:Int) < (b.length:Int)))
def kB (a:List Claim)(b:List Claim):Bool:=(bif((a.length:Int) !=(b.length:Int))then false else(match am (j5 a b) a.length 0 ()with| .inl x_0_0=>false| .inr s_0=>true))
def lA (a:List Claim)(b:List Claim):Prop:=(a.length≤aU→(b.length≤aU→(((a.length:Int) !=(b.length:Int))=false→okI (j5 a b) (nN a b) a.length 0 ())))
@[go_sem] def qU:List SV→Option Con:=(pR .claim fun a=>(pR .claim fun b=>(pE (.det (lA a b) (.v (.bool (kB a b)))))))
theorem uj:FnOk Tryz.prog 16 qU:=by
 have hG:ConsOk Tryz.prog (mkG [] []):=ap cg0 cg0;refine aL [.o] mixed aj hG (fn:=Tryz.f16) (c:=ae Tryz.f16) kr kr kr kr (cI fun a=>(cI fun b=>(aw (fun hp=>?_))));dsimp only[av]at hp;unfold lA at hp;refine⟨nbl rfl,(fun id st=>bif Nat.beq id 0 then some (LCR (ρ:=Unit) (σ:=Unit) 0 [] [] (fun k_0 s_0=>⟨[(0,.rs .claim a),(1,.rs .claim b),(5,.v (.int .i64 (k_0:Int)))],[]⟩) (j5 a b) (nN a b) a.length () (True) (fun _=>.ret) (fun x_0_0=>⟨[(4,.v (.bool false))],[]⟩) st)else none),?_,?_⟩
 ·unfold ae Tryz.f16;simp only[al,true_and,and_true]
  ·refine c7 (a.length≤aU) mixed aj hG kr (fun _=>rfl) (a.length:Int) rfl fK (fun hb0 k_0 s_0 hlt0 hq0 hw hc=>⟨L0,ag _,?_⟩) (fun hb0 s_0 hc=>?_) fun hb0 k_0 s_0=>?_
   ·unfold nN at hq0;try simp only[hw,Int.toNat_natCast]at hq0
    exact bF (jl [])
   ·exact bG (jl [])
   ·exact zq7
 ·unfold ae Tryz.f16;try unfold kB
  exact zq1
@[go_sem] def fw (a:List Block)(b:List Block)(k_0:Nat)(s_0:Unit):Unit⊕Unit:=(bif(!(((a.getD k_0 (default:Block)).right==(b.getD k_0 (default:Block)).right)&&(((a.getD k_0 (default:Block)).farm==(b.getD k_0 (default:Block)).farm)&&(((a.getD k_0 (default:Block)).hour==(b.getD k_0 (default:Block)).hour)&&((a.getD k_0 (default:Block)).reach==(b.getD k_0 (default:Block)).reach)))))then .inl ()else .inr ())
def ix (a:List Block)(b:List Block)(k_0:Nat)(s_0:Unit):Prop:=(a.length≤aU→(0≤(k_0:Int)∧(k_0:Int) < (b.length:Int)))
def eK (a:List Block)(b:List Block):Bool:=(bif((a.length:Int) !=(b.length:Int))then false else(match am (fw a b) a.length 0 ()with| .inl x_0_0=>false| .inr s_0=>true))
def eM (a:List Block)(b:List Block):Prop:=(a.length≤aU→(b.length≤aU→(((a.length:Int) !=(b.length:Int))=false→okI (fw a b) (ix a b) a.length 0 ())))
@[go_sem] def kC:List SV→Option Con:=(pR .block fun a=>(pR .block fun b=>(pE (.det (eM a b) (.v (.bool (eK a b)))))))
theorem nX:FnOk Tryz.prog 17 kC:=by
 have hG:ConsOk Tryz.prog (mkG [] []):=ap cg0 cg0;refine aL [.o] mixed aj hG (fn:=Tryz.f17) (c:=ae Tryz.f17) kr kr kr kr (cI fun a=>(cI fun b=>(aw (fun hp=>?_))));dsimp only[av]at hp;unfold eM at hp;refine⟨nbl rfl,(fun id st=>bif Nat.beq id 0 then some (LCR (ρ:=Unit) (σ:=Unit) 0 [] [] (fun k_0 s_0=>⟨[(0,.rs .block a),(1,.rs .block b),(5,.v (.int .i64 (k_0:Int)))],[]⟩) (fw a b) (ix a b) a.length () (True) (fun _=>.ret) (fun x_0_0=>⟨[(4,.v (.bool false))],[]⟩) st)else none),?_,?_⟩
 ·unfold ae Tryz.f17;simp only[al,true_and,and_true]
  ·refine c7 (a.length≤aU) mixed aj hG kr (fun _=>rfl) (a.length:Int) rfl fK (fun hb0 k_0 s_0 hlt0 hq0 hw hc=>⟨L0,ag _,?_⟩) (fun hb0 s_0 hc=>?_) fun hb0 k_0 s_0=>?_
   ·unfold ix at hq0;try simp only[hw,Int.toNat_natCast]at hq0
    exact bF (jl [])
   ·exact bG (jl [])
   ·exact zq7
 ·unfold ae Tryz.f17;try unfold eK
  exact zq1
def tq (d:District)(l_:List Deed)(fr:Int)(to:Int):Bool:=(bif((!(w5 d l_)) ||((decide ((d.rights.length:Int) > 40))&&(decide ((d.rights.length:Int)≤256))))then false else(((((decide (fr<0)) ||(decide (fr > to))) ||(decide (to≥d.hours))) ||(decide (d.hours > 4096))) ||(decide ((i64.wrap (to - fr)) <60))))
@[go_sem] def xJ:List SV→Option Con:=(pD .district fun d=>(pR .deed fun l_=>(pI fun fr=>(pI fun to=>(pE (.det True (.v (.bool (tq d l_ fr to)))))))))
theorem Dj:FnOk Tryz.prog 11 xJ:=by
 have hG:ConsOk Tryz.prog (mkG [(28,fun l=>xH (cn [.st .district,.sl .deed] l))] []):=ap (cgc (Di.norm [.st .district,.sl .deed]) cg0) cg0;refine aL [.o] mixed aj hG (fn:=Tryz.f11) (c:=ae Tryz.f11) kr kr kr kr (aI fun d=>(cI fun l_=>(aM fun fr=>(aM fun to=>(aw (fun hp=>?_))))));dsimp only[av]at hp;refine⟨nbl rfl,L0,ag _,?_⟩
 ·unfold ae Tryz.f11;try unfold tq
  exact zq1
def mm (x:Right)(hour:Int):Bool:=(bif(((x.kind !=1) ||(decide (hour<x.since))) ||(decide (hour > x.to)))then false else(decide ((Int.tmod (i64.wrap (hour - x.since)) x.every) <x.length)))
def qV (x:Right)(hour:Int):Prop:=((((x.kind !=1) ||(decide (hour<x.since))) ||(decide (hour > x.to)))=false→x.every≠0)
@[go_sem] def vX:List SV→Option Con:=(pD .right fun x=>(pI fun hour=>(pE (.det (qV x hour) (.v (.bool (mm x hour)))))))
theorem Bb:FnOk Tryz.prog 59 vX:=by
 have hG:ConsOk Tryz.prog (mkG [] []):=ap cg0 cg0;refine aL [.o] mixed aj hG (fn:=Tryz.f59) (c:=ae Tryz.f59) kr kr kr kr (aI fun x=>(aM fun hour=>(aw (fun hp=>?_))));dsimp only[av]at hp;unfold qV at hp;refine⟨nbl rfl,L0,ag _,?_⟩
 ·unfold ae Tryz.f59;try unfold mm
  exact zq1
def bv (x:Right)(kind:Int)(farm:Int)(reach:Int)(hour:Int):Bool:=(((((x.kind==kind)&&(x.farm==farm))&&(x.reach==reach))&&(decide (x.since≤hour)))&&(decide (hour≤x.to)))
@[go_sem] def pC:List SV→Option Con:=(pD .right fun x=>(pI fun kind=>(pI fun farm=>(pI fun reach=>(pI fun hour=>(pE (.det True (.v (.bool (bv x kind farm reach hour))))))))))
theorem sG:FnOk Tryz.prog 93 pC:=by
 have hG:ConsOk Tryz.prog (mkG [] []):=ap cg0 cg0;refine aL [.o] mixed aj hG (fn:=Tryz.f93) (c:=ae Tryz.f93) kr kr kr kr (aI fun x=>(aM fun kind=>(aM fun farm=>(aM fun reach=>(aM fun hour=>(aw (fun hp=>?_)))))));dsimp only[av]at hp;refine⟨nbl rfl,L0,ag _,?_⟩
 ·unfold ae Tryz.f93;try unfold bv
  exact zq1
@[go_sem] def oU (d:District)(farm:Int)(reach:Int)(hour:Int)(k_0:Nat)(s_0:Unit):Unit⊕Unit:=(bif(bv (d.rights.getD k_0 (default:Right)) 3 farm reach hour)then .inl ()else .inr ())
def i7 (d:District)(farm:Int)(reach:Int)(hour:Int):Bool:=(match am (oU d farm reach hour) d.rights.length 0 ()with| .inl x_0_0=>true| .inr s_0=>false)
@[go_sem] def uk:List SV→Option Con:=(pD .district fun d=>(pI fun farm=>(pI fun reach=>(pI fun hour=>(pE (.det True (.v (.bool (i7 d farm reach hour)))))))))
theorem Af:FnOk Tryz.prog 94 uk:=by
 have hG:ConsOk Tryz.prog (mkG [(93,pC)] []):=ap (cgc sG cg0) cg0;refine aL [.o] mixed aj hG (fn:=Tryz.f94) (c:=ae Tryz.f94) kr kr kr kr (aI fun d=>(aM fun farm=>(aM fun reach=>(aM fun hour=>(aw (fun hp=>?_))))));dsimp only[av]at hp;refine⟨nbl rfl,(fun id st=>bif Nat.beq id 0 then some (LCR (ρ:=Unit) (σ:=Unit) 1 [] [0] (fun k_0 s_0=>⟨[(1,.v (.int .i64 farm)),(2,.v (.int .i64 reach)),(3,.v (.int .i64 hour)),(4,.ptr 0 0),(9,.v (.int .i64 (k_0:Int)))],[.cells (cellsOf .district d)]⟩) (oU d farm reach hour) pT d.rights.length () (True) (fun _=>.ret) (fun x_0_0=>⟨[(8,.v (.bool true))],[.dead]⟩) st)else none),?_,?_⟩
 ·unfold ae Tryz.f94;simp only[al,true_and,and_true]
  ·refine c7 (d.rights.length≤aU) mixed aj hG kr (fun _=>rfl) (d.rights.length:Int) rfl fK (fun hb0 k_0 s_0 hlt0 _ hw hc=>⟨L0,ag _,?_⟩) (fun hb0 s_0 hc=>?_) fun hb0 k_0 s_0=>?_
   ·exact bF (jl [0])
   ·exact bG (jl [0])
   ·exact zq7
 ·unfold ae Tryz.f94;try unfold i7
  exact zq1
@[go_sem] def qW (d:District)(farm:Int)(reach:Int)(hour:Int)(k_0:Nat)(s_0:Unit):Unit⊕Unit:=(bif(((d.rights.getD k_0 (default:Right)).farm !=farm)&&(bv (d.rights.getD k_0 (default:Right)) 2 ((d.rights.getD k_0 (default:Right)).farm) reach hour))then .inl ()else .inr ())
def mn (d:District)(farm:Int)(reach:Int)(hour:Int):Bool:=(match am (qW d farm reach hour) d.rights.length 0 ()with| .inl x_0_0=>(i7 d farm reach hour) | .inr s_0=>true)
@[go_sem] def xK:List SV→Option Con:=(pD .district fun d=>(pI fun farm=>(pI fun reach=>(pI fun hour=>(pE (.det True (.v (.bool (mn d farm reach hour)))))))))
theorem Dk:FnOk Tryz.prog 62 xK:=by
 have hG:ConsOk Tryz.prog (mkG [(93,pC),(94,fun l=>uk (cn [.st .district,.o,.o,.o] l))] []):=ap (cgc sG (cgc (Af.norm [.st .district,.o,.o,.o]) cg0)) cg0;refine aL [.o] mixed aj hG (fn:=Tryz.f62) (c:=ae Tryz.f62) kr kr kr kr (aI fun d=>(aM fun farm=>(aM fun reach=>(aM fun hour=>(aw (fun hp=>?_))))));dsimp only[av]at hp;refine⟨nbl rfl,(fun id st=>bif Nat.beq id 0 then some (LCR (ρ:=Unit) (σ:=Unit) 1 [] [0] (fun k_0 s_0=>⟨[(1,.v (.int .i64 farm)),(2,.v (.int .i64 reach)),(3,.v (.int .i64 hour)),(4,.ptr 0 0),(9,.v (.int .i64 (k_0:Int)))],[.cells (cellsOf .district d)]⟩) (qW d farm reach hour) pT d.rights.length () (True) (fun _=>.ret) (fun x_0_0=>⟨[(8,.v (.bool (i7 d farm reach hour)))],[.dead]⟩) st)else none),?_,?_⟩
 ·unfold ae Tryz.f62;simp only[al,true_and,and_true]
  ·refine c7 (d.rights.length≤aU) mixed aj hG kr (fun _=>rfl) (d.rights.length:Int) rfl fK (fun hb0 k_0 s_0 hlt0 _ hw hc=>⟨L0,ag _,?_⟩) (fun hb0 s_0 hc=>?_) fun hb0 k_0 s_0=>?_
   ·exact bF (jl [0])
   ·exact bG (jl [0])
   ·exact zq7
 ·unfold ae Tryz.f62;try unfold mn
  exact zq1
@[go_sem] def eW (d:District)(k_0:Nat)(s_0:List Int):(List Int)⊕(List Int):=(bif(decide ((s_0.getD 0 (0:Int)) > 0))then .inr (([(d.reaches.getD (Int.toNat (s_0.getD 0 (0:Int))) (default:Reach)).up])++s_0)else .inl s_0)
def f_ (d:District)(k_0:Nat)(s_0:List Int):Prop:=((0≤0∧0< (s_0.length:Int))∧((decide ((s_0.getD 0 (0:Int)) > 0))=true→((0≤0∧0< (s_0.length:Int))∧((0≤(s_0.getD 0 (0:Int))∧(s_0.getD 0 (0:Int)) < (d.reaches.length:Int))∧((([(d.reaches.getD (Int.toNat (s_0.getD 0 (0:Int))) (default:Reach)).up])++s_0).length*8≤d5)))))
def fV (d:District)(reach:Int):List Int:=(match am (eW d) 66 0 ([reach])with| .inl x_0_0=>x_0_0| .inr s_0=>default)
def og (d:District)(reach:Int):Prop:=(okI (eW d) (f_ d) 66 0 ([reach])∧(∀ z_,am (eW d) 66 0 ([reach])≠ .inr z_))
@[go_sem] def vY:List SV→Option Con:=(pD .district fun d=>(pI fun reach=>(pE (.det (og d reach) (.nw .int (fV d reach))))))
theorem Bc:FnOk Tryz.prog 61 vY:=by
 have hG:ConsOk Tryz.prog (mkG [] []):=ap cg0 cg0;refine iT [(.tmp 4,.int)] mixed aj hG (fn:=Tryz.f61) (c:=ae Tryz.f61) kr kr kr kr (aI fun d=>(aM fun reach=>(aw (fun hp=>?_))));dsimp only[av]at hp;unfold og at hp;refine⟨nbl rfl,(fun id st=>bif Nat.beq id 0 then some (LCV (ρ:=(List Int)) (σ:=(List Int)) 2 [] [0,1,1] (fun k_0 s_0=>⟨[(2,.ptr 0 0),(5,.os 2)],[.cells (cellsOf .district d),.dead,.row .int s_0]⟩) (eW d) (f_ d) 66 ([reach]) (fun _=>.normal) (fun x_0_0=>⟨[(5,.os 2)],[.dead,.dead,.row .int x_0_0]⟩) st)else none),?_,?_⟩
 ·unfold ae Tryz.f61;simp only[al,true_and,and_true]
  ·refine dR mixed aj hG kr (fun _=>rfl) fun k_0 s_0 hq0=>⟨L0,ag _,?_⟩
   ·unfold f_ at hq0;exact sC (jl [0,1,4]) (jl [0,1,2])
 ·unfold ae Tryz.f61;try unfold fV
  exact zq1
@[go_sem] def kD (d:District)(farm:Int)(hour:Int)(k_0:Nat)(s_0:Unit):Int⊕Unit:=(bif(!(mn d farm ((fV d ((d.farms.getD (Int.toNat farm) (default:Farm)).reach)).getD k_0 (0:Int)) hour))then .inl ((fV d ((d.farms.getD (Int.toNat farm) (default:Farm)).reach)).getD k_0 (0:Int))else .inr ())
def dF (d:District)(farm:Int)(hour:Int):Int:=(match am (kD d farm hour) ((fV d ((d.farms.getD (Int.toNat farm) (default:Farm)).reach)).length) 0 ()with| .inl x_0_0=>x_0_0| .inr s_0=>(-1))
def gm (d:District)(farm:Int)(hour:Int):Prop:=((0≤farm∧farm< (d.farms.length:Int))∧(og d ((d.farms.getD (Int.toNat farm) (default:Farm)).reach)))
@[go_sem] def lB:List SV→Option Con:=(pD .district fun d=>(pI fun farm=>(pI fun hour=>(pE (.det (gm d farm hour) (.v (.int .i64 (dF d farm hour))))))))
theorem oV:FnOk Tryz.prog 32 lB:=by
 have hG:ConsOk Tryz.prog (mkG [(61,fun l=>vY (cn [.st .district,.o] l)),(62,fun l=>xK (cn [.st .district,.o,.o,.o] l))] []):=ap (cgc (Bc.norm [.st .district,.o]) (cgc (Dk.norm [.st .district,.o,.o,.o]) cg0)) cg0;refine aL [.o] mixed aj hG (fn:=Tryz.f32) (c:=ae Tryz.f32) kr kr kr kr (aI fun d=>(aM fun farm=>(aM fun hour=>(aw (fun hp=>?_)))));dsimp only[av]at hp;unfold gm at hp;refine⟨nbl rfl,(fun id st=>bif Nat.beq id 0 then some (LCR (ρ:=Int) (σ:=Unit) 2 [] [0,1] (fun k_0 s_0=>⟨[(1,.v (.int .i64 farm)),(2,.v (.int .i64 hour)),(3,.ptr 0 0),(7,.os 1),(8,.v (.int .i64 (k_0:Int)))],[.cells (cellsOf .district d),.row .int (fV d ((d.farms.getD (Int.toNat farm) (default:Farm)).reach))]⟩) (kD d farm hour) pT ((fV d ((d.farms.getD (Int.toNat farm) (default:Farm)).reach)).length) () (True) (fun _=>.ret) (fun x_0_0=>⟨[(6,.v (.int .i64 x_0_0))],[.dead,.dead]⟩) st)else none),?_,?_⟩
 ·unfold ae Tryz.f32;simp only[al,true_and,and_true]
  ·refine c7 ((fV d ((d.farms.getD (Int.toNat farm) (default:Farm)).reach)).length≤aU) mixed aj hG kr (fun _=>rfl) ((fV d ((d.farms.getD (Int.toNat farm) (default:Farm)).reach)).length:Int) rfl fK (fun hb0 k_0 s_0 hlt0 _ hw hc=>⟨L0,ag _,?_⟩) (fun hb0 s_0 hc=>?_) fun hb0 k_0 s_0=>?_
   ·exact bF (jl [0,1])
   ·exact bG (jl [0,1])
   ·exact zq7
 ·unfold ae Tryz.f32;try unfold dF
  exact zq1
@[go_sem] def g9 (l_:List Claim)(x:Claim)(k_0:Nat)(s_0:Int):Int⊕Int:=(bif((decide (s_0< (l_.length:Int)))&&(jx (l_.getD (Int.toNat s_0) (default:Claim)) x))then .inr (i64.wrap (s_0+1))else .inl s_0)
def lC (l_:List Claim)(x:Claim)(k_0:Nat)(s_0:Int):Prop:=(l_.length≤aU→((decide (s_0< (l_.length:Int)))=true→(0≤s_0∧s_0< (l_.length:Int))))
def mo (l_:List Claim)(x:Claim):List Claim:=(match am (g9 l_ x) 200000 0 0 with| .inl x_0_0=>(((([])++((l_.take (Int.toNat x_0_0)).drop 0))++([x]))++((l_.take (Int.toNat (l_.length:Int))).drop (Int.toNat x_0_0))) | .inr s_0=>default)
def pi (l_:List Claim)(x:Claim):Prop:=(okI (g9 l_ x) (lC l_ x) 200000 0 0∧(∀ z_,am (g9 l_ x) 200000 0 0≠ .inr z_)∧(∀ x_0_0,am (g9 l_ x) 200000 0 0=.inl x_0_0→((0≤0∧0≤x_0_0∧x_0_0≤(l_.length:Int))∧(((([])++((l_.take (Int.toNat x_0_0)).drop 0)).length*40≤d5)∧((([])++((l_.take (Int.toNat x_0_0)).drop 0)).length≤aU→((((([])++((l_.take (Int.toNat x_0_0)).drop 0))++([x])).length*40≤d5)∧(((([])++((l_.take (Int.toNat x_0_0)).drop 0))++([x])).length≤aU→((0≤x_0_0∧x_0_0≤(l_.length:Int)∧(l_.length:Int)≤(l_.length:Int))∧((((([])++((l_.take (Int.toNat x_0_0)).drop 0))++([x]))++((l_.take (Int.toNat (l_.length:Int))).drop (Int.toNat x_0_0))).length*40≤d5)))))))))
@[go_sem] def xL:List SV→Option Con:=(pR .claim fun l_=>(pD .claim fun x=>(pE (.det (pi l_ x) (.nw .claim (mo l_ x))))))
theorem Dl:FnOk Tryz.prog 60 xL:=by
 have hG:ConsOk Tryz.prog (mkG [(38,oS)] []):=ap (cgc rF cg0) cg0;refine iT [(.tmp 4,.claim)] mixed aj hG (fn:=Tryz.f60) (c:=ae Tryz.f60) kr kr kr kr (cI fun l_=>(aI fun x=>(aw (fun hp=>?_))));dsimp only[av]at hp;unfold pi at hp;refine⟨nbl rfl,(fun id st=>bif Nat.beq id 0 then some (LCV (ρ:=Int) (σ:=Int) 1 [] [0] (fun k_0 s_0=>⟨[(0,.rs .claim l_),(3,.ptr 0 0),(5,.v (.int .i64 s_0))],[.cells (cellsOf .claim x)]⟩) (g9 l_ x) (lC l_ x) 200000 0 (fun _=>.normal) (fun x_0_0=>⟨[(0,.rs .claim l_),(3,.ptr 0 0),(5,.v (.int .i64 x_0_0))],[.cells (cellsOf .claim x)]⟩) st)else none),?_,?_⟩
 ·unfold ae Tryz.f60;simp only[al,true_and,and_true]
  ·refine dR mixed aj hG kr (fun _=>rfl) fun k_0 s_0 hq0=>⟨L0,ag _,?_⟩
   ·unfold lC at hq0;exact cJ (jl [0])
 ·unfold ae Tryz.f60;try unfold mo
  exact zq1
@[go_sem] def iu (d:District)(l_:List Deed)(h_:Int)(known:Int)(k_0:Nat)(s_0:List Claim):Empty⊕(List Claim):=(bif(mm (d.rights.getD (Int.toNat ((((c8 d l_ h_ known).1).getD k_0 (default:Holding)).right)) (default:Right)) h_)then .inr (mo s_0 ({ right:=(((c8 d l_ h_ known).1).getD k_0 (default:Holding)).right,farm:=(((c8 d l_ h_ known).1).getD k_0 (default:Holding)).farm,hour:=h_,litres:=(((c8 d l_ h_ known).1).getD k_0 (default:Holding)).litres,rank:=(((c8 d l_ h_ known).1).getD k_0 (default:Holding)).rank}:Claim))else .inr s_0)
def nO (d:District)(l_:List Deed)(h_:Int)(known:Int)(k_0:Nat)(s_0:List Claim):Prop:=(((c8 d l_ h_ known).1).length≤aU→((0≤(((c8 d l_ h_ known).1).getD k_0 (default:Holding)).right∧(((c8 d l_ h_ known).1).getD k_0 (default:Holding)).right< (d.rights.length:Int))∧((qV (d.rights.getD (Int.toNat ((((c8 d l_ h_ known).1).getD k_0 (default:Holding)).right)) (default:Right)) h_)∧((mm (d.rights.getD (Int.toNat ((((c8 d l_ h_ known).1).getD k_0 (default:Holding)).right)) (default:Right)) h_)=true→(pi s_0 ({ right:=(((c8 d l_ h_ known).1).getD k_0 (default:Holding)).right,farm:=(((c8 d l_ h_ known).1).getD k_0 (default:Holding)).farm,hour:=h_,litres:=(((c8 d l_ h_ known).1).getD k_0 (default:Holding)).litres,rank:=(((c8 d l_ h_ known).1).getD k_0 (default:Holding)).rank}:Claim))))))
def bj (d:District)(l_:List Deed)(h_:Int)(known:Int):List Claim:=(match am (iu d l_ h_ known) (((c8 d l_ h_ known).1).length) 0 ([])with| .inl x=>x.elim| .inr s_0=>s_0)
def lD (d:District)(l_:List Deed)(h_:Int)(known:Int):Prop:=((oR d l_ h_ known)∧okI (iu d l_ h_ known) (nO d l_ h_ known) (((c8 d l_ h_ known).1).length) 0 ([]))
@[go_sem] def qX:List SV→Option Con:=(pD .district fun d=>(pR .deed fun l_=>(pI fun h_=>(pI fun known=>(pE (.det (lD d l_ h_ known) (.nw .claim (bj d l_ h_ known))))))))
theorem ul:FnOk Tryz.prog 31 qX:=by
 have hG:ConsOk Tryz.prog (mkG [(58,fun l=>Ad (cn [.st .district,.sl .deed,.o,.o] l)),(59,vX),(60,fun l=>xL (cn [.sl .claim,.st .claim] l))] []):=ap (cgc (ET.norm [.st .district,.sl .deed,.o,.o]) (cgc Bb (cgc (Dl.norm [.sl .claim,.st .claim]) cg0))) cg0;refine iT [(.tmp 8,.claim)] mixed aj hG (fn:=Tryz.f31) (c:=ae Tryz.f31) kr kr kr kr (aI fun d=>(cI fun l_=>(aM fun h_=>(aM fun known=>(aw (fun hp=>?_))))));dsimp only[av]at hp;unfold lD at hp;refine⟨nbl rfl,(fun id st=>bif Nat.beq id 0 then some (LCR (ρ:=Empty) (σ:=(List Claim)) 2 [.slot 11 (.row .claim ([]))] [0,1,2] (fun k_0 s_0=>⟨[(2,.v (.int .i64 h_)),(4,.ptr 0 0),(9,.os 1),(11,.os 2),(12,.v (.int .i64 (k_0:Int)))],[.cells (cellsOf .district d),.row .holding ((c8 d l_ h_ known).1),.row .claim s_0]⟩) (iu d l_ h_ known) (nO d l_ h_ known) (((c8 d l_ h_ known).1).length) ([]) (True) ((·.elim)) ((·.elim)) st)else none),?_,?_⟩
 ·unfold ae Tryz.f31;simp only[al,true_and,and_true]
  ·refine c7 (((c8 d l_ h_ known).1).length≤aU) mixed aj hG kr (fun _=>rfl) (((c8 d l_ h_ known).1).length:Int) rfl fK (fun hb0 k_0 s_0 hlt0 hq0 hw hc=>⟨L0,ag _,?_⟩) (fun hb0 s_0 hc=>?_) fun hb0 k_0 s_0=>?_
   ·unfold nO at hq0;try simp only[hw,Int.toNat_natCast]at hq0
    exact qn (jl [0,1,4]) (jl [0,1,2])
   ·exact qo (jl [0,1,4]) (jl [0,1,2])
   ·exact zq7
 ·unfold ae Tryz.f31;try unfold bj
  exact zq1
def eG (d:District)(l_:List Deed)(fr:Int)(to:Int)(known:Int):Int:=(bif((gl d l_) !=0)then(gl d l_)else(bif(((((decide (fr<0)) ||(decide (fr > to))) ||(decide (to≥d.hours))) ||(decide (known<0))) ||(decide (known > 1048576)))then 1 else(bif(decide ((i64.wrap ((i64.wrap ((i64.wrap (to - fr))+1))*(d.rights.length:Int))) > 4096))then 2 else 0)))
def j6 (d:District)(l_:List Deed)(fr:Int)(to:Int)(known:Int):Prop:=(jX d l_)
@[go_sem] def pF:List SV→Option Con:=(pD .district fun d=>(pR .deed fun l_=>(pI fun fr=>(pI fun to=>(pI fun known=>(pE (.det (j6 d l_ fr to known) (.v (.int .i64 (eG d l_ fr to known))))))))))
theorem sH:FnOk Tryz.prog 30 pF:=by
 have hG:ConsOk Tryz.prog (mkG [(57,fun l=>pz (cn [.st .district,.sl .deed] l))] []):=ap (cgc (sE.norm [.st .district,.sl .deed]) cg0) cg0;refine aL [.o] mixed aj hG (fn:=Tryz.f30) (c:=ae Tryz.f30) kr kr kr kr (aI fun d=>(cI fun l_=>(aM fun fr=>(aM fun to=>(aM fun known=>(aw (fun hp=>?_)))))));dsimp only[av]at hp;unfold j6 at hp;refine⟨nbl rfl,L0,ag _,?_⟩
 ·unfold ae Tryz.f30;try unfold eG
  exact zq1
@[go_sem] def nq (d:District)(l_:List Deed)(known:Int)(s_0:List Claim×Int)(k_1:Nat)(s_1:List Claim):Empty⊕(List Claim):=(bif(decide ((dF d (((bj d l_ s_0.2 known).getD k_1 (default:Claim)).farm) s_0.2) <0))then .inr (s_1++([((bj d l_ s_0.2 known).getD k_1 (default:Claim))]))else .inr s_1)
def pG (d:District)(l_:List Deed)(known:Int)(s_0:List Claim×Int)(k_1:Nat)(s_1:List Claim):Prop:=((bj d l_ s_0.2 known).length≤aU→((gm d (((bj d l_ s_0.2 known).getD k_1 (default:Claim)).farm) s_0.2)∧((decide ((dF d (((bj d l_ s_0.2 known).getD k_1 (default:Claim)).farm) s_0.2) <0))=true→((s_1++([((bj d l_ s_0.2 known).getD k_1 (default:Claim))])).length*40≤d5))))
@[go_sem] def i9 (d:District)(l_:List Deed)(to:Int)(known:Int)(k_0:Nat)(s_0:List Claim×Int):(List Claim)⊕(List Claim×Int):=(bif(decide (s_0.2≤to))then(match am (nq d l_ known s_0) ((bj d l_ s_0.2 known).length) 0 s_0.1 with| .inl x=>x.elim| .inr s_1=>.inr (s_1,(i64.wrap (s_0.2+1))))else .inl s_0.1)
def j7 (d:District)(l_:List Deed)(to:Int)(known:Int)(k_0:Nat)(s_0:List Claim×Int):Prop:=((decide (s_0.2≤to))=true→((lD d l_ s_0.2 known)∧okI (nq d l_ known s_0) (pG d l_ known s_0) ((bj d l_ s_0.2 known).length) 0 s_0.1))
def i_ (d:District)(l_:List Deed)(fr:Int)(to:Int)(known:Int):List Claim×Int:=(bif((eG d l_ fr to known) !=0)then([],(eG d l_ fr to known))else(match am (i9 d l_ to known) 4098 0 ([],fr)with| .inl x_0_0=>(bif(decide ((x_0_0.length:Int) > 4096))then([],2)else(x_0_0,0)) | .inr s_0=>default))
def qY (d:District)(l_:List Deed)(fr:Int)(to:Int)(known:Int):Prop:=((j6 d l_ fr to known)∧(((eG d l_ fr to known) !=0)=false→(okI (i9 d l_ to known) (j7 d l_ to known) 4098 0 ([],fr)∧(∀ z_,am (i9 d l_ to known) 4098 0 ([],fr)≠ .inr z_))))
@[go_sem] def Ag:List SV→Option Con:=(pD .district fun d=>(pR .deed fun l_=>(pI fun fr=>(pI fun to=>(pI fun known=>(pE (.det (qY d l_ fr to known) (.tup [.nw .claim ((i_ d l_ fr to known).1),.v (.int .i64 ((i_ d l_ fr to known).2))]))))))))
theorem EU:FnOk Tryz.prog 13 Ag:=by
 have hG:ConsOk Tryz.prog (mkG [(30,fun l=>pF (cn [.st .district,.sl .deed,.o,.o,.o] l)),(31,fun l=>qX (cn [.st .district,.sl .deed,.o,.o] l)),(32,fun l=>lB (cn [.st .district,.o,.o] l))] []):=ap (cgc (sH.norm [.st .district,.sl .deed,.o,.o,.o]) (cgc (ul.norm [.st .district,.sl .deed,.o,.o]) (cgc (oV.norm [.st .district,.o,.o]) cg0))) cg0;refine iT [(.tmp 10,.claim)] mixed aj hG (fn:=Tryz.f13) (c:=ae Tryz.f13) kr kr kr kr (aI fun d=>(cI fun l_=>(aM fun fr=>(aM fun to=>(aM fun known=>(aw (fun hp=>?_)))))));dsimp only[av]at hp;unfold qY at hp;refine⟨nbl rfl,(fun id st=>bif Nat.beq id 0 then some (LCV (ρ:=(List Claim)) (σ:=(List Claim×Int)) 1 [.slot 13 (.row .claim ([]))] [0,1] (fun k_0 s_0=>⟨[(1,.rs .deed l_),(3,.v (.int .i64 to)),(4,.v (.int .i64 known)),(5,.ptr 0 0),(13,.os 1),(14,.v (.int .i64 s_0.2))],[.cells (cellsOf .district d),.row .claim s_0.1]⟩) (i9 d l_ to known) (j7 d l_ to known) 4098 ([],fr) (fun _=>.normal) (fun x_0_0=>⟨[(13,.os 1)],[.dead,.row .claim x_0_0]⟩) st)else none),?_,?_⟩
 ·unfold ae Tryz.f13;simp only[al,true_and,and_true]
  ·refine dR mixed aj hG kr (fun _=>rfl) fun k_0 s_0 hq0=>⟨(fun id st=>bif Nat.beq id 2 then some (LCR (ρ:=Empty) (σ:=(List Claim)) 3 [] [0,1,2,1] (fun k_1 s_1=>⟨[(1,.rs .deed l_),(3,.v (.int .i64 to)),(4,.v (.int .i64 known)),(5,.ptr 0 0),(13,.os 3),(14,.v (.int .i64 s_0.2)),(15,.os 2),(16,.v (.int .i64 (k_1:Int)))],[.cells (cellsOf .district d),.dead,.row .claim (bj d l_ s_0.2 known),.row .claim s_1]⟩) (nq d l_ known s_0) (pG d l_ known s_0) ((bj d l_ s_0.2 known).length) s_0.1 (True) ((·.elim)) ((·.elim)) st)else none),?_,?_⟩
   ·simp only[al,true_and,and_true]
    ·refine c7 ((bj d l_ s_0.2 known).length≤aU) mixed aj hG kr (fun _=>rfl) ((bj d l_ s_0.2 known).length:Int) rfl fK (fun hb1 k_1 s_1 hlt1 hq1 hw hc=>⟨L0,ag _,?_⟩) (fun hb1 s_1 hc=>?_) fun hb1 k_1 s_1=>?_
     ·unfold pG at hq1;try simp only[hw,Int.toNat_natCast]at hq1
      exact qn (jl [0,1,2,5]) (jl [0,1,2,3])
     ·exact qo (jl [0,1,2,5]) (jl [0,1,2,3])
     ·exact G1
   ·unfold j7 at hq0;exact sC (jl [0,3]) (jl [0,1])
 ·unfold ae Tryz.f13;try unfold i_
  exact zq1
@[go_sem] def gN (a0:District)(a1:List Deed)(a4:Int)(s_0:List Block×Int)(k_1:Nat)(s_1:List Block):Empty⊕(List Block):=(bif(decide ((dF a0 (((bj a0 a1 s_0.2 a4).getD k_1 (default:Claim)).farm) s_0.2)≥0))then .inr (s_1++([({ right:=((bj a0 a1 s_0.2 a4).getD k_1 (default:Claim)).right,farm:=((bj a0 a1 s_0.2 a4).getD k_1 (default:Claim)).farm,hour:=s_0.2,reach:=(dF a0 (((bj a0 a1 s_0.2 a4).getD k_1 (default:Claim)).farm) s_0.2)}:Block)]))else .inr s_1)
def kE (a0:District)(a1:List Deed)(a4:Int)(s_0:List Block×Int)(k_1:Nat)(s_1:List Block):Prop:=((bj a0 a1 s_0.2 a4).length≤aU→((gm a0 (((bj a0 a1 s_0.2 a4).getD k_1 (default:Claim)).farm) s_0.2)∧((decide ((dF a0 (((bj a0 a1 s_0.2 a4).getD k_1 (default:Claim)).farm) s_0.2)≥0))=true→((s_1++([({ right:=((bj a0 a1 s_0.2 a4).getD k_1 (default:Claim)).right,farm:=((bj a0 a1 s_0.2 a4).getD k_1 (default:Claim)).farm,hour:=s_0.2,reach:=(dF a0 (((bj a0 a1 s_0.2 a4).getD k_1 (default:Claim)).farm) s_0.2)}:Block)])).length*32≤d5))))
@[go_sem] def eO (a0:District)(a1:List Deed)(a3:Int)(a4:Int)(k_0:Nat)(s_0:List Block×Int):(List Block)⊕(List Block×Int):=(bif(decide (s_0.2≤a3))then(match am (gN a0 a1 a4 s_0) ((bj a0 a1 s_0.2 a4).length) 0 s_0.1 with| .inl x=>x.elim| .inr s_1=>.inr (s_1,(i64.wrap (s_0.2+1))))else .inl s_0.1)
def fW (a0:District)(a1:List Deed)(a3:Int)(a4:Int)(k_0:Nat)(s_0:List Block×Int):Prop:=((decide (s_0.2≤a3))=true→((lD a0 a1 s_0.2 a4)∧okI (gN a0 a1 a4 s_0) (kE a0 a1 a4 s_0) ((bj a0 a1 s_0.2 a4).length) 0 s_0.1))
def eX (a0:District)(a1:List Deed)(a2:Int)(a3:Int)(a4:Int):List Block×Int:=(bif((eG a0 a1 a2 a3 a4) !=0)then([],(eG a0 a1 a2 a3 a4))else(match am (eO a0 a1 a3 a4) 4098 0 ([],a2)with| .inl x_0_0=>(bif(decide ((x_0_0.length:Int) > 4096))then([],2)else(x_0_0,0)) | .inr s_0=>default))
def kn (a0:District)(a1:List Deed)(a2:Int)(a3:Int)(a4:Int):Prop:=((j6 a0 a1 a2 a3 a4)∧(((eG a0 a1 a2 a3 a4) !=0)=false→(okI (eO a0 a1 a3 a4) (fW a0 a1 a3 a4) 4098 0 ([],a2)∧(∀ z_,am (eO a0 a1 a3 a4) 4098 0 ([],a2)≠ .inr z_))))
@[go_sem] def rG:List SV→Option Con:=(pD .district fun a0=>(pR .deed fun a1=>(pI fun a2=>(pI fun a3=>(pI fun a4=>(pE (.det (kn a0 a1 a2 a3 a4) (.tup [.nw .block ((eX a0 a1 a2 a3 a4).1),.v (.int .i64 ((eX a0 a1 a2 a3 a4).2))]))))))))
theorem w6:FnOk Tryz.prog 15 rG:=by
 have hG:ConsOk Tryz.prog (mkG [(30,fun l=>pF (cn [.st .district,.sl .deed,.o,.o,.o] l)),(31,fun l=>qX (cn [.st .district,.sl .deed,.o,.o] l)),(32,fun l=>lB (cn [.st .district,.o,.o] l))] []):=ap (cgc (sH.norm [.st .district,.sl .deed,.o,.o,.o]) (cgc (ul.norm [.st .district,.sl .deed,.o,.o]) (cgc (oV.norm [.st .district,.o,.o]) cg0))) cg0;refine iT [(.tmp 10,.block)] mixed aj hG (fn:=Tryz.f15) (c:=ae Tryz.f15) kr kr kr kr (aI fun a0=>(cI fun a1=>(aM fun a2=>(aM fun a3=>(aM fun a4=>(aw (fun hp=>?_)))))));dsimp only[av]at hp;unfold kn at hp;refine⟨nbl rfl,(fun id st=>bif Nat.beq id 0 then some (LCV (ρ:=(List Block)) (σ:=(List Block×Int)) 1 [.slot 13 (.row .block ([]))] [0,1] (fun k_0 s_0=>⟨[(1,.rs .deed a1),(3,.v (.int .i64 a3)),(4,.v (.int .i64 a4)),(5,.ptr 0 0),(13,.os 1),(14,.v (.int .i64 s_0.2))],[.cells (cellsOf .district a0),.row .block s_0.1]⟩) (eO a0 a1 a3 a4) (fW a0 a1 a3 a4) 4098 ([],a2) (fun _=>.normal) (fun x_0_0=>⟨[(13,.os 1)],[.dead,.row .block x_0_0]⟩) st)else none),?_,?_⟩
 ·unfold ae Tryz.f15;simp only[al,true_and,and_true]
  ·refine dR mixed aj hG kr (fun _=>rfl) fun k_0 s_0 hq0=>⟨(fun id st=>bif Nat.beq id 2 then some (LCR (ρ:=Empty) (σ:=(List Block)) 3 [] [0,1,2,1] (fun k_1 s_1=>⟨[(1,.rs .deed a1),(3,.v (.int .i64 a3)),(4,.v (.int .i64 a4)),(5,.ptr 0 0),(13,.os 3),(14,.v (.int .i64 s_0.2)),(15,.os 2),(16,.v (.int .i64 (k_1:Int)))],[.cells (cellsOf .district a0),.dead,.row .claim (bj a0 a1 s_0.2 a4),.row .block s_1]⟩) (gN a0 a1 a4 s_0) (kE a0 a1 a4 s_0) ((bj a0 a1 s_0.2 a4).length) s_0.1 (True) ((·.elim)) ((·.elim)) st)else none),?_,?_⟩
   ·simp only[al,true_and,and_true]
    ·refine c7 ((bj a0 a1 s_0.2 a4).length≤aU) mixed aj hG kr (fun _=>rfl) ((bj a0 a1 s_0.2 a4).length:Int) rfl fK (fun hb1 k_1 s_1 hlt1 hq1 hw hc=>⟨L0,ag _,?_⟩) (fun hb1 s_1 hc=>?_) fun hb1 k_1 s_1=>?_
     ·unfold kE at hq1;try simp only[hw,Int.toNat_natCast]at hq1
      exact qn (jl [0,1,2,5]) (jl [0,1,2,3])
     ·exact qo (jl [0,1,2,5]) (jl [0,1,2,3])
     ·exact G1
   ·unfold fW at hq0;exact sC (jl [0,3]) (jl [0,1])
 ·unfold ae Tryz.f15;try unfold eX
  exact zq1
end Go.Sx
end
