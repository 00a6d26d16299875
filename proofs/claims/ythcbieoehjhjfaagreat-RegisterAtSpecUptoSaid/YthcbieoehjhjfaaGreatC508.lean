/- Part of the proof that the law RegisterAtSpec returns true and leaves its arguments as they were, for all arguments of bulk at most 1048576 (the Upto form). -/
import Derived.Test.YthcbieoehjhjfaaGreatC507
import Derived.Test.YthcbieoehjhjfaaGreatC506
import Derived.Sort.Statements
import Derived.Shelf.SlSortCmp.Insertion
set_option linter.all false
set_option maxHeartbeats 4000000
section
namespace Go.Sx
open Go.Proofs
set_option maxRecDepth 100000
set_option linter.unusedSimpArgs false
theorem w_ {p:Prop}(h:p:=by(first|done|(repeat' (first|with_reducible refine And.intro ?_ ?_|((with_reducible show _≠_);first|assumption|omega|(simp_all [aX,bu];done) |grind) |with_reducible intro _)) <;>(first|done|with_reducible exact Empty.elim ‹Empty› |with_reducible assumption|rfl|omega|assumption|decide|exact fk [] |exact czl|(simp only[*,cond_true,cond_false,Bool.not_true,Bool.not_false,go_sem,Nat.reduceBEq,Nat.reduceLeDiff,Nat.reduceLT,decide_true,Nat.reduceAdd,Nat.reduceSub,Nat.reduceMul,Int.reduceLE,Int.reduceLT,Int.reduceToNat,Int.reduceNeg,reduceCtorEq];(repeat' (first|with_reducible refine And.intro ?_ ?_|((with_reducible show _≠_);first|assumption|omega|(simp_all [aX,bu];done) |grind) |with_reducible intro _)) <;>(first|done|assumption|rfl|omega|decide|exact fk [] |(simp_all [aX,bu];done))) |(simp_all [okI,aX,bu];done) |(simp_all [aX,bu];(first|done|exact fk2 [])) |exact fk2 []))):p:=h
theorem jh {p:Prop}(h:p:=by simp only[go_sem,Nat.reduceBEq,Nat.reduceLeDiff,Nat.reduceLT,decide_true,Nat.reduceAdd,Nat.reduceSub,Nat.reduceMul,Int.reduceLE,Int.reduceLT,Int.reduceToNat,Int.reduceNeg,reduceCtorEq,hc,hw];all_goals exact w_):p:=h
theorem ji {p:Prop}(h:p:=by simp only[go_sem,Nat.reduceBEq,Nat.reduceLeDiff,Nat.reduceLT,decide_true,Nat.reduceAdd,Nat.reduceSub,Nat.reduceMul,Int.reduceLE,Int.reduceLT,Int.reduceToNat,Int.reduceNeg,reduceCtorEq,hc];all_goals exact w_):p:=h
theorem BI {p:Prop}(h:p:=by simp only[go_sem,Nat.reduceBEq,Nat.reduceLeDiff,Nat.reduceLT,decide_true,Nat.reduceAdd,Nat.reduceSub,Nat.reduceMul,Int.reduceLE,Int.reduceLT,Int.reduceToNat,Int.reduceNeg,reduceCtorEq];all_goals exact w_):p:=h
theorem gO {p:Prop}(h:p:=by simp only[go_sem,Nat.reduceBEq,Nat.reduceLeDiff,Nat.reduceLT,decide_true,Nat.reduceAdd,Nat.reduceSub,Nat.reduceMul,Int.reduceLE,Int.reduceLT,Int.reduceToNat,Int.reduceNeg,reduceCtorEq];all_goals exact gN):p:=h
def qQ (d:District):Bool:=((((((decide ((d.reaches.length:Int)≤100))&&(decide ((d.farms.length:Int)≤700)))&&(decide ((d.crops.length:Int)≤100)))&&(decide ((d.rights.length:Int)≤300)))&&(decide ((d.duties.length:Int)≤300)))&&(decide ((d.wells.length:Int)≤100)))
@[go_sem] def uV:List SV→Option Con:=(pD .district fun d=>(pE (.det True (.v (.bool (qQ d))))))
theorem Ai:FnOk Tryz.prog 35 uV:=by
 have hG:ConsOk Tryz.prog (mkG [] []):=ay cg0 cg0
 refine aU [.o] mixed am hG (fn:=Tryz.f35) (c:=ae Tryz.f35) (by kernel_rfl) (by kernel_rfl) (by kernel_rfl) (by kernel_rfl) (bb fun d=>(aI (fun hp=>?_)))
 dsimp only[aG]at hp
 refine⟨Nat.le_of_ble_eq_true rfl,L0,ah _,?_⟩
 ·unfold ae Tryz.f35
  try unfold qQ
  simp only[go_sem,Nat.reduceBEq,Nat.reduceLeDiff,Nat.reduceLT,decide_true,Nat.reduceAdd,Nat.reduceSub,Nat.reduceMul,Int.reduceLE,Int.reduceLT,Int.reduceToNat,Int.reduceNeg,reduceCtorEq]
  all_goals exact cl
def az (n:Int)(lo:Int)(hi:Int):Bool:=((decide (n≥lo))&&(decide (n≤hi)))
@[go_sem] def fU:List SV→Option Con:=(pI fun n=>(pI fun lo=>(pI fun hi=>(pE (.det True (.v (.bool (az n lo hi))))))))
theorem gP:FnOk Tryz.prog 92 fU:=by
 have hG:ConsOk Tryz.prog (mkG [] []):=ay cg0 cg0
 refine aU [.o] mixed am hG (fn:=Tryz.f92) (c:=ae Tryz.f92) (by kernel_rfl) (by kernel_rfl) (by kernel_rfl) (by kernel_rfl) (co fun n=>(co fun lo=>(co fun hi=>(aI (fun hp=>?_)))))
 dsimp only[aG]at hp
 refine⟨Nat.le_of_ble_eq_true rfl,L0,ah _,?_⟩
 ·unfold ae Tryz.f92
  try unfold az
  simp only[go_sem,Nat.reduceBEq,Nat.reduceLeDiff,Nat.reduceLT,decide_true,Nat.reduceAdd,Nat.reduceSub,Nat.reduceMul,Int.reduceLE,Int.reduceLT,Int.reduceToNat,Int.reduceNeg,reduceCtorEq]
  all_goals exact cl
@[go_sem] def eZ (b:Int)(k_0:Nat)(s_0:Int×Int):Int⊕(Int×Int):=(bif(decide (s_0.2 > 0))then .inr (s_0.2,(Int.tmod s_0.1 s_0.2))else .inl s_0.1)
def jK (b:Int)(k_0:Nat)(s_0:Int×Int):Prop:=((decide (s_0.2 > 0))=true→s_0.2≠0)
def jk (a:Int)(b:Int):Int:=(match ak (eZ b) (Int.toNat b+1) 0 (a,b)with| .inl x_0_0=>x_0_0| .inr s_0=>default)
def jB (a:Int)(b:Int):Prop:=(okI (eZ b) (jK b) (Int.toNat b+1) 0 (a,b)∧(∀ z_,ak (eZ b) (Int.toNat b+1) 0 (a,b)≠ .inr z_))
@[go_sem] def pu:List SV→Option Con:=(pI fun a=>(pI fun b=>(pE (.det (jB a b) (.v (.int .i64 (jk a b)))))))
theorem uq:FnOk Tryz.prog 121 pu:=by
 have hG:ConsOk Tryz.prog (mkG [] []):=ay cg0 cg0
 refine aU [.o] mixed am hG (fn:=Tryz.f121) (c:=ae Tryz.f121) (by kernel_rfl) (by kernel_rfl) (by kernel_rfl) (by kernel_rfl) (co fun a=>(co fun b=>(aI (fun hp=>?_))))
 dsimp only[aG]at hp
 unfold jB at hp
 refine⟨Nat.le_of_ble_eq_true rfl,(fun id st=>bif Nat.beq id 0 then some (LCV (ρ:=Int) (σ:=(Int×Int)) 0 [] [] (fun k_0 s_0=>⟨[(0,.v (.int .i64 s_0.1)),(1,.v (.int .i64 s_0.2))],[]⟩) (eZ b) (jK b) (Int.toNat b+1) (a,b) (fun _=>.normal) (fun x_0_0=>⟨[(0,.v (.int .i64 x_0_0))],[]⟩) st)else none),?_,?_⟩
 ·unfold ae Tryz.f121
  simp only[al,true_and,and_true]
  ·refine eO mixed am hG (by kernel_rfl) (fun _=>rfl) fun k_0 s_0 hq0=>⟨L0,ah _,?_⟩
   ·unfold jK at hq0
    exact BI
 ·unfold ae Tryz.f121
  try unfold jk
  simp only[go_sem,Nat.reduceBEq,Nat.reduceLeDiff,Nat.reduceLT,decide_true,Nat.reduceAdd,Nat.reduceSub,Nat.reduceMul,Int.reduceLE,Int.reduceLT,Int.reduceToNat,Int.reduceNeg,reduceCtorEq]
  all_goals exact cl
def kY (n:Int):Int:=(bif(decide (n<0))then(IntKind.i64.wrap (0 - n))else n)
@[go_sem] def td:List SV→Option Con:=(pI fun n=>(pE (.det True (.v (.int .i64 (kY n))))))
theorem x7:FnOk Tryz.prog 122 td:=by
 have hG:ConsOk Tryz.prog (mkG [] []):=ay cg0 cg0
 refine aU [.o] mixed am hG (fn:=Tryz.f122) (c:=ae Tryz.f122) (by kernel_rfl) (by kernel_rfl) (by kernel_rfl) (by kernel_rfl) (co fun n=>(aI (fun hp=>?_)))
 dsimp only[aG]at hp
 refine⟨Nat.le_of_ble_eq_true rfl,L0,ah _,?_⟩
 ·unfold ae Tryz.f122
  try unfold kY
  simp only[go_sem,Nat.reduceBEq,Nat.reduceLeDiff,Nat.reduceLT,decide_true,Nat.reduceAdd,Nat.reduceSub,Nat.reduceMul,Int.reduceLE,Int.reduceLT,Int.reduceToNat,Int.reduceNeg,reduceCtorEq]
  all_goals exact cl
def cJ (a:Ratio):Bool:=(((((decide (a.d≥1))&&(decide (a.d≤1073741824)))&&(decide (a.n≥(-1073741824))))&&(decide (a.n≤1073741824)))&&((jk (kY a.n) a.d) ==1))
def eT (a:Ratio):Prop:=(((((decide (a.d≥1))&&(decide (a.d≤1073741824)))&&(decide (a.n≥(-1073741824))))&&(decide (a.n≤1073741824)))=true→(jB (kY a.n) a.d))
@[go_sem] def jl:List SV→Option Con:=(pD .ratio fun a=>(pE (.det (eT a) (.v (.bool (cJ a))))))
theorem km:FnOk Tryz.prog 96 jl:=by
 have hG:ConsOk Tryz.prog (mkG [(121,pu),(122,td)] []):=ay (cgc uq (cgc x7 cg0)) cg0
 refine aU [.o] mixed am hG (fn:=Tryz.f96) (c:=ae Tryz.f96) (by kernel_rfl) (by kernel_rfl) (by kernel_rfl) (by kernel_rfl) (bb fun a=>(aI (fun hp=>?_)))
 dsimp only[aG]at hp
 unfold eT at hp
 refine⟨Nat.le_of_ble_eq_true rfl,L0,ah _,?_⟩
 ·unfold ae Tryz.f96
  try unfold cJ
  simp only[go_sem,Nat.reduceBEq,Nat.reduceLeDiff,Nat.reduceLT,decide_true,Nat.reduceAdd,Nat.reduceSub,Nat.reduceMul,Int.reduceLE,Int.reduceLT,Int.reduceToNat,Int.reduceNeg,reduceCtorEq]
  all_goals exact cl
def fD (a:Ratio):Int:=(bif(!(cJ a))then 120 else 0)
def lE (a:Ratio):Prop:=(eT a)
@[go_sem] def rD:List SV→Option Con:=(pD .ratio fun a=>(pE (.det (lE a) (.v (.int .i64 (fD a))))))
theorem xa:FnOk Tryz.prog 150 rD:=by
 have hG:ConsOk Tryz.prog (mkG [(96,jl)] []):=ay (cgc km cg0) cg0
 refine aU [.o] mixed am hG (fn:=Tryz.f150) (c:=ae Tryz.f150) (by kernel_rfl) (by kernel_rfl) (by kernel_rfl) (by kernel_rfl) (bb fun a=>(aI (fun hp=>?_)))
 dsimp only[aG]at hp
 unfold lE at hp
 refine⟨Nat.le_of_ble_eq_true rfl,L0,ah _,?_⟩
 ·unfold ae Tryz.f150
  try unfold fD
  simp only[go_sem,Nat.reduceBEq,Nat.reduceLeDiff,Nat.reduceLT,decide_true,Nat.reduceAdd,Nat.reduceSub,Nat.reduceMul,Int.reduceLE,Int.reduceLT,Int.reduceToNat,Int.reduceNeg,reduceCtorEq]
  all_goals exact cl
def ny (a:Ratio)(b:Ratio):Bool:=(decide ((IntKind.i64.wrap (a.n*b.d)) < (IntKind.i64.wrap (b.n*a.d))))
@[go_sem] def tf:List SV→Option Con:=(pD .ratio fun a=>(pD .ratio fun b=>(pE (.det True (.v (.bool (ny a b)))))))
theorem x8:FnOk Tryz.prog 154 tf:=by
 have hG:ConsOk Tryz.prog (mkG [] []):=ay cg0 cg0
 refine aU [.o] mixed am hG (fn:=Tryz.f154) (c:=ae Tryz.f154) (by kernel_rfl) (by kernel_rfl) (by kernel_rfl) (by kernel_rfl) (bb fun a=>(bb fun b=>(aI (fun hp=>?_))))
 dsimp only[aG]at hp
 refine⟨Nat.le_of_ble_eq_true rfl,L0,ah _,?_⟩
 ·unfold ae Tryz.f154
  try unfold ny
  simp only[go_sem,Nat.reduceBEq,Nat.reduceLeDiff,Nat.reduceLT,decide_true,Nat.reduceAdd,Nat.reduceSub,Nat.reduceMul,Int.reduceLE,Int.reduceLT,Int.reduceToNat,Int.reduceNeg,reduceCtorEq]
  all_goals exact cl
def gD (a:Ratio)(b:Ratio):Bool:=((cJ a)&&(cJ b))
def kn (a:Ratio)(b:Ratio):Prop:=((eT a)∧((cJ a)=true→(eT b)))
@[go_sem] def pa:List SV→Option Con:=(pD .ratio fun a=>(pD .ratio fun b=>(pE (.det (kn a b) (.v (.bool (gD a b)))))))
theorem rE:FnOk Tryz.prog 123 pa:=by
 have hG:ConsOk Tryz.prog (mkG [(96,jl)] []):=ay (cgc km cg0) cg0
 refine aU [.o] mixed am hG (fn:=Tryz.f123) (c:=ae Tryz.f123) (by kernel_rfl) (by kernel_rfl) (by kernel_rfl) (by kernel_rfl) (bb fun a=>(bb fun b=>(aI (fun hp=>?_))))
 dsimp only[aG]at hp
 unfold kn at hp
 refine⟨Nat.le_of_ble_eq_true rfl,L0,ah _,?_⟩
 ·unfold ae Tryz.f123
  try unfold gD
  simp only[go_sem,Nat.reduceBEq,Nat.reduceLeDiff,Nat.reduceLT,decide_true,Nat.reduceAdd,Nat.reduceSub,Nat.reduceMul,Int.reduceLE,Int.reduceLT,Int.reduceToNat,Int.reduceNeg,reduceCtorEq]
  all_goals exact cl
def kZ (a:Ratio)(b:Ratio):Int×Int:=(bif(!(gD a b))then(0,120)else(bif(ny a b)then((-1),0)else(bif(ny b a)then(1,0)else(0,0))))
def qo (a:Ratio)(b:Ratio):Prop:=(kn a b)
@[go_sem] def uW:List SV→Option Con:=(pD .ratio fun a=>(pD .ratio fun b=>(pE (.det (qo a b) (.tup [.v (.int .i64 ((kZ a b).1)),.v (.int .i64 ((kZ a b).2))])))))
theorem Aj:FnOk Tryz.prog 151 uW:=by
 have hG:ConsOk Tryz.prog (mkG [(123,pa),(154,tf)] []):=ay (cgc rE (cgc x8 cg0)) cg0
 refine aU [.o,.o] mixed am hG (fn:=Tryz.f151) (c:=ae Tryz.f151) (by kernel_rfl) (by kernel_rfl) (by kernel_rfl) (by kernel_rfl) (bb fun a=>(bb fun b=>(aI (fun hp=>?_))))
 dsimp only[aG]at hp
 unfold qo at hp
 refine⟨Nat.le_of_ble_eq_true rfl,L0,ah _,?_⟩
 ·unfold ae Tryz.f151
  try unfold kZ
  simp only[go_sem,Nat.reduceBEq,Nat.reduceLeDiff,Nat.reduceLT,decide_true,Nat.reduceAdd,Nat.reduceSub,Nat.reduceMul,Int.reduceLE,Int.reduceLT,Int.reduceToNat,Int.reduceNeg,reduceCtorEq]
  all_goals exact cl
@[go_sem] def eU (a1:Int)(k_0:Nat)(s_0:Int×Int):(Int×Int)⊕(Int×Int):=(bif(decide (s_0.2< (-1)))then .inr (s_0.2,(Int.tmod s_0.1 s_0.2))else .inl (s_0.1,s_0.2))
def jC (a1:Int)(k_0:Nat)(s_0:Int×Int):Prop:=((decide (s_0.2< (-1)))=true→s_0.2≠0)
def jL (a0:Int)(a1:Int):Ratio×Int:=(bif(a1==0)then(({ n:=0,d:=0}:Ratio),120)else(match ak (eU a1) (Int.natAbs a1+2) 0 ((bif(decide (a0 > 0))then(IntKind.i64.wrap (0 - a0))else a0),(bif(decide (a1 > 0))then(IntKind.i64.wrap (0 - a1))else a1))with| .inl x_0_0=>(bif(x_0_0.2==(-1))then(bif((decide ((bif(decide (a0 > 0))then(IntKind.i64.wrap (0 - a0))else a0) < (-1073741824))) ||(decide ((bif(decide (a1 > 0))then(IntKind.i64.wrap (0 - a1))else a1) < (-1073741824))))then(({ n:=0,d:=0}:Ratio),2)else(bif((decide ((IntKind.i64.wrap (Int.tdiv (bif(decide (a0 > 0))then(IntKind.i64.wrap (0 - a0))else a0) (-1))) > 1073741824)) ||(decide ((IntKind.i64.wrap (Int.tdiv (bif(decide (a1 > 0))then(IntKind.i64.wrap (0 - a1))else a1) (-1))) > 1073741824)))then(({ n:=0,d:=0}:Ratio),2)else(bif((decide (a0<0)) !=(decide (a1<0)))then(({ n:=(IntKind.i64.wrap (0 - (IntKind.i64.wrap (Int.tdiv (bif(decide (a0 > 0))then(IntKind.i64.wrap (0 - a0))else a0) (-1))))),d:=(IntKind.i64.wrap (Int.tdiv (bif(decide (a1 > 0))then(IntKind.i64.wrap (0 - a1))else a1) (-1)))}:Ratio),0)else(({ n:=(IntKind.i64.wrap (Int.tdiv (bif(decide (a0 > 0))then(IntKind.i64.wrap (0 - a0))else a0) (-1))),d:=(IntKind.i64.wrap (Int.tdiv (bif(decide (a1 > 0))then(IntKind.i64.wrap (0 - a1))else a1) (-1)))}:Ratio),0))))else(bif((x_0_0.1==(-1))&&((decide ((bif(decide (a0 > 0))then(IntKind.i64.wrap (0 - a0))else a0) < (-1073741824))) ||(decide ((bif(decide (a1 > 0))then(IntKind.i64.wrap (0 - a1))else a1) < (-1073741824)))))then(({ n:=0,d:=0}:Ratio),2)else(bif((decide ((IntKind.i64.wrap (Int.tdiv (bif(decide (a0 > 0))then(IntKind.i64.wrap (0 - a0))else a0) x_0_0.1)) > 1073741824)) ||(decide ((IntKind.i64.wrap (Int.tdiv (bif(decide (a1 > 0))then(IntKind.i64.wrap (0 - a1))else a1) x_0_0.1)) > 1073741824)))then(({ n:=0,d:=0}:Ratio),2)else(bif((decide (a0<0)) !=(decide (a1<0)))then(({ n:=(IntKind.i64.wrap (0 - (IntKind.i64.wrap (Int.tdiv (bif(decide (a0 > 0))then(IntKind.i64.wrap (0 - a0))else a0) x_0_0.1)))),d:=(IntKind.i64.wrap (Int.tdiv (bif(decide (a1 > 0))then(IntKind.i64.wrap (0 - a1))else a1) x_0_0.1))}:Ratio),0)else(({ n:=(IntKind.i64.wrap (Int.tdiv (bif(decide (a0 > 0))then(IntKind.i64.wrap (0 - a0))else a0) x_0_0.1)),d:=(IntKind.i64.wrap (Int.tdiv (bif(decide (a1 > 0))then(IntKind.i64.wrap (0 - a1))else a1) x_0_0.1))}:Ratio),0))))) | .inr s_0=>default))
def ko (a0:Int)(a1:Int):Prop:=((a1==0)=false→(okI (eU a1) (jC a1) (Int.natAbs a1+2) 0 ((bif(decide (a0 > 0))then(IntKind.i64.wrap (0 - a0))else a0),(bif(decide (a1 > 0))then(IntKind.i64.wrap (0 - a1))else a1))∧(∀ z_,ak (eU a1) (Int.natAbs a1+2) 0 ((bif(decide (a0 > 0))then(IntKind.i64.wrap (0 - a0))else a0),(bif(decide (a1 > 0))then(IntKind.i64.wrap (0 - a1))else a1))≠ .inr z_)∧(∀ x_0_0,ak (eU a1) (Int.natAbs a1+2) 0 ((bif(decide (a0 > 0))then(IntKind.i64.wrap (0 - a0))else a0),(bif(decide (a1 > 0))then(IntKind.i64.wrap (0 - a1))else a1))=.inl x_0_0→(((x_0_0.2==(-1))=true→(((decide ((bif(decide (a0 > 0))then(IntKind.i64.wrap (0 - a0))else a0) < (-1073741824))) ||(decide ((bif(decide (a1 > 0))then(IntKind.i64.wrap (0 - a1))else a1) < (-1073741824))))=false→((-1)≠0∧(-1)≠0)))∧((x_0_0.2==(-1))=false→(((x_0_0.1==(-1))&&((decide ((bif(decide (a0 > 0))then(IntKind.i64.wrap (0 - a0))else a0) < (-1073741824))) ||(decide ((bif(decide (a1 > 0))then(IntKind.i64.wrap (0 - a1))else a1) < (-1073741824)))))=false→(x_0_0.1≠0∧x_0_0.1≠0)))))))
@[go_sem] def tg:List SV→Option Con:=(pI fun a0=>(pI fun a1=>(pE (.det (ko a0 a1) (.tup [.agg (cellsOf .ratio ((jL a0 a1).1)),.v (.int .i64 ((jL a0 a1).2))])))))
theorem x9:FnOk Tryz.prog 124 tg:=by
 have hG:ConsOk Tryz.prog (mkG [] []):=ay cg0 cg0
 refine aU [.st .ratio,.o] mixed am hG (fn:=Tryz.f124) (c:=ae Tryz.f124) (by kernel_rfl) (by kernel_rfl) (by kernel_rfl) (by kernel_rfl) (co fun a0=>(co fun a1=>(aI (fun hp=>?_))))
 dsimp only[aG]at hp
 unfold ko at hp
 refine⟨Nat.le_of_ble_eq_true rfl,(fun id st=>bif Nat.beq id 1000016 then some (JC (⟨[(0,.v (.int .i64 a0)),(1,.v (.int .i64 a1)),(4,.ptr 0 0),(6,.v (.int .i64 (bif(decide (a0 > 0))then(IntKind.i64.wrap (0 - a0))else a0)))],[.cells [.v (.int .i64 0),.v (.int .i64 0)]]⟩))else bif Nat.beq id 1000021 then some (JC (⟨[(0,.v (.int .i64 a0)),(1,.v (.int .i64 a1)),(4,.ptr 0 0),(6,.v (.int .i64 (bif(decide (a0 > 0))then(IntKind.i64.wrap (0 - a0))else a0))),(7,.v (.int .i64 (bif(decide (a1 > 0))then(IntKind.i64.wrap (0 - a1))else a1)))],[.cells [.v (.int .i64 0),.v (.int .i64 0)]]⟩))else bif Nat.beq id 0 then some (LCV (ρ:=(Int×Int)) (σ:=(Int×Int)) 1 [] [0] (fun k_0 s_0=>⟨[(0,.v (.int .i64 a0)),(1,.v (.int .i64 a1)),(4,.ptr 0 0),(6,.v (.int .i64 (bif(decide (a0 > 0))then(IntKind.i64.wrap (0 - a0))else a0))),(7,.v (.int .i64 (bif(decide (a1 > 0))then(IntKind.i64.wrap (0 - a1))else a1))),(8,.v (.int .i64 s_0.1)),(9,.v (.int .i64 s_0.2))],[.cells [.v (.int .i64 0),.v (.int .i64 0)]]⟩) (eU a1) (jC a1) (Int.natAbs a1+2) ((bif(decide (a0 > 0))then(IntKind.i64.wrap (0 - a0))else a0),(bif(decide (a1 > 0))then(IntKind.i64.wrap (0 - a1))else a1)) (fun _=>.normal) (fun x_0_0=>⟨[(0,.v (.int .i64 a0)),(1,.v (.int .i64 a1)),(4,.ptr 0 0),(6,.v (.int .i64 (bif(decide (a0 > 0))then(IntKind.i64.wrap (0 - a0))else a0))),(7,.v (.int .i64 (bif(decide (a1 > 0))then(IntKind.i64.wrap (0 - a1))else a1))),(8,.v (.int .i64 x_0_0.1)),(9,.v (.int .i64 x_0_0.2))],[.cells [.v (.int .i64 0),.v (.int .i64 0)]]⟩) st)else none),?_,?_⟩
 ·unfold ae Tryz.f124
  simp only[al,true_and,and_true]
  ·refine eO mixed am hG (by kernel_rfl) (fun _=>rfl) fun k_0 s_0 hq0=>⟨L0,ah _,?_⟩
   ·unfold jC at hq0
    exact gO
 ·unfold ae Tryz.f124
  try unfold jL
  simp only[go_sem,Nat.reduceBEq,Nat.reduceLeDiff,Nat.reduceLT,decide_true,Nat.reduceAdd,Nat.reduceSub,Nat.reduceMul,Int.reduceLE,Int.reduceLT,Int.reduceToNat,Int.reduceNeg,reduceCtorEq]
  all_goals exact cl
def jU (a:Ratio)(b:Ratio):Ratio×Int:=(bif(!(gD a b))then(({ n:=0,d:=0}:Ratio),120)else(((jL (IntKind.i64.wrap ((IntKind.i64.wrap (a.n*b.d))+(IntKind.i64.wrap (b.n*a.d)))) (IntKind.i64.wrap (a.d*b.d))).1),(jL (IntKind.i64.wrap ((IntKind.i64.wrap (a.n*b.d))+(IntKind.i64.wrap (b.n*a.d)))) (IntKind.i64.wrap (a.d*b.d))).2))
def l8 (a:Ratio)(b:Ratio):Prop:=((kn a b)∧((!(gD a b))=false→(ko (IntKind.i64.wrap ((IntKind.i64.wrap (a.n*b.d))+(IntKind.i64.wrap (b.n*a.d)))) (IntKind.i64.wrap (a.d*b.d)))))
@[go_sem] def uX:List SV→Option Con:=(pD .ratio fun a=>(pD .ratio fun b=>(pE (.det (l8 a b) (.tup [.agg (cellsOf .ratio ((jU a b).1)),.v (.int .i64 ((jU a b).2))])))))
theorem Ak:FnOk Tryz.prog 97 uX:=by
 have hG:ConsOk Tryz.prog (mkG [(123,pa),(124,tg)] []):=ay (cgc rE (cgc x9 cg0)) cg0
 refine aU [.st .ratio,.o] mixed am hG (fn:=Tryz.f97) (c:=ae Tryz.f97) (by kernel_rfl) (by kernel_rfl) (by kernel_rfl) (by kernel_rfl) (bb fun a=>(bb fun b=>(aI (fun hp=>?_))))
 dsimp only[aG]at hp
 unfold l8 at hp
 refine⟨Nat.le_of_ble_eq_true rfl,L0,ah _,?_⟩
 ·unfold ae Tryz.f97
  try unfold jU
  simp only[go_sem,Nat.reduceBEq,Nat.reduceLeDiff,Nat.reduceLT,decide_true,Nat.reduceAdd,Nat.reduceSub,Nat.reduceMul,Int.reduceLE,Int.reduceLT,Int.reduceToNat,Int.reduceNeg,reduceCtorEq]
  all_goals exact cl
def jV (n:Int)(d:Int):Int:=(bif(decide ((Int.tmod n d) <0))then(IntKind.i64.wrap ((IntKind.i64.wrap (Int.tdiv n d)) - 1))else(IntKind.i64.wrap (Int.tdiv n d)))
def lF (n:Int)(d:Int):Prop:=(d≠0∧d≠0)
@[go_sem] def rF:List SV→Option Con:=(pI fun n=>(pI fun d=>(pE (.det (lF n d) (.v (.int .i64 (jV n d)))))))
theorem xb:FnOk Tryz.prog 114 rF:=by
 have hG:ConsOk Tryz.prog (mkG [] []):=ay cg0 cg0
 refine aU [.o] mixed am hG (fn:=Tryz.f114) (c:=ae Tryz.f114) (by kernel_rfl) (by kernel_rfl) (by kernel_rfl) (by kernel_rfl) (co fun n=>(co fun d=>(aI (fun hp=>?_))))
 dsimp only[aG]at hp
 unfold lF at hp
 refine⟨Nat.le_of_ble_eq_true rfl,L0,ah _,?_⟩
 ·unfold ae Tryz.f114
  try unfold jV
  simp only[go_sem,Nat.reduceBEq,Nat.reduceLeDiff,Nat.reduceLT,decide_true,Nat.reduceAdd,Nat.reduceSub,Nat.reduceMul,Int.reduceLE,Int.reduceLT,Int.reduceToNat,Int.reduceNeg,reduceCtorEq]
  all_goals exact cl
def dK (a:Ratio)(n:Int):Int×Int×Int:=(bif(!(cJ a))then(0,0,120)else(bif((decide (n< (-1073741824))) ||(decide (n > 1073741824)))then(0,0,1)else((jV (IntKind.i64.wrap (a.n*n)) a.d),(IntKind.i64.wrap (0 - (jV (IntKind.i64.wrap ((IntKind.i64.wrap (0 - a.n))*n)) a.d))),0)))
def jm (a:Ratio)(n:Int):Prop:=((eT a)∧((!(cJ a))=false→(((decide (n< (-1073741824))) ||(decide (n > 1073741824)))=false→((lF (IntKind.i64.wrap (a.n*n)) a.d)∧(lF (IntKind.i64.wrap ((IntKind.i64.wrap (0 - a.n))*n)) a.d)))))
@[go_sem] def rG:List SV→Option Con:=(pD .ratio fun a=>(pI fun n=>(pE (.det (jm a n) (.tup [.v (.int .i64 ((dK a n).1)),.v (.int .i64 ((dK a n).2.1)),.v (.int .i64 ((dK a n).2.2))])))))
theorem xc:FnOk Tryz.prog 83 rG:=by
 have hG:ConsOk Tryz.prog (mkG [(96,jl),(114,rF)] []):=ay (cgc km (cgc xb cg0)) cg0
 refine aU [.o,.o,.o] mixed am hG (fn:=Tryz.f83) (c:=ae Tryz.f83) (by kernel_rfl) (by kernel_rfl) (by kernel_rfl) (by kernel_rfl) (bb fun a=>(co fun n=>(aI (fun hp=>?_))))
 dsimp only[aG]at hp
 unfold jm at hp
 refine⟨Nat.le_of_ble_eq_true rfl,L0,ah _,?_⟩
 ·unfold ae Tryz.f83
  try unfold dK
  simp only[go_sem,Nat.reduceBEq,Nat.reduceLeDiff,Nat.reduceLT,decide_true,Nat.reduceAdd,Nat.reduceSub,Nat.reduceMul,Int.reduceLE,Int.reduceLT,Int.reduceToNat,Int.reduceNeg,reduceCtorEq]
  all_goals exact cl
def eb (x:Ratio×Ratio):Bool:=(bif(((fD x.1) !=0) ||((fD x.2) !=0))then false else(((decide (x.1.n≥0))&&(decide ((kZ x.1 x.2).1≤0)))&&(decide (x.2.n≤x.2.d))))
def kp (x:Ratio×Ratio):Prop:=((lE x.1)∧((((fD x.1) !=0)=false→(lE x.2))∧((((fD x.1) !=0) ||((fD x.2) !=0))=false→(qo x.1 x.2))))
@[go_sem] def qp:List SV→Option Con:=(pD .ratio2 fun x=>(pE (.det (kp x) (.v (.bool (eb x))))))
theorem vz:FnOk Tryz.prog 144 qp:=by
 have hG:ConsOk Tryz.prog (mkG [(150,rD),(151,uW)] []):=ay (cgc xa (cgc Aj cg0)) cg0
 refine aU [.o] mixed am hG (fn:=Tryz.f144) (c:=ae Tryz.f144) (by kernel_rfl) (by kernel_rfl) (by kernel_rfl) (by kernel_rfl) (bb fun x=>(aI (fun hp=>?_)))
 dsimp only[aG]at hp
 unfold kp at hp
 refine⟨Nat.le_of_ble_eq_true rfl,L0,ah _,?_⟩
 ·unfold ae Tryz.f144
  try unfold eb
  simp only[go_sem,Nat.reduceBEq,Nat.reduceLeDiff,Nat.reduceLT,decide_true,Nat.reduceAdd,Nat.reduceSub,Nat.reduceMul,Int.reduceLE,Int.reduceLT,Int.reduceToNat,Int.reduceNeg,reduceCtorEq]
  all_goals exact cl
def l9 (x:Reach):Bool:=(bif(((!(az x.delay 1 16)) ||(!(az x.cap 0 1073741824))) ||(!(az x.bank 0 1099511627776)))then false else(bif(((!(az x.siphon 0 (if x.bank<x.cap then x.bank else x.cap))) ||(!(az x.evap.lo 0 x.evap.hi))) ||(decide (x.evap.hi > 1073741824)))then false else(eb x.seep)))
def lG (x:Reach):Prop:=((((!(az x.delay 1 16)) ||(!(az x.cap 0 1073741824))) ||(!(az x.bank 0 1099511627776)))=false→((((!(az x.siphon 0 (if x.bank<x.cap then x.bank else x.cap))) ||(!(az x.evap.lo 0 x.evap.hi))) ||(decide (x.evap.hi > 1073741824)))=false→(kp x.seep)))
@[go_sem] def rH:List SV→Option Con:=(pD .reach fun x=>(pE (.det (lG x) (.v (.bool (l9 x))))))
theorem xd:FnOk Tryz.prog 120 rH:=by
 have hG:ConsOk Tryz.prog (mkG [(92,fU),(144,qp)] []):=ay (cgc gP (cgc vz cg0)) cg0
 refine aU [.o] mixed am hG (fn:=Tryz.f120) (c:=ae Tryz.f120) (by kernel_rfl) (by kernel_rfl) (by kernel_rfl) (by kernel_rfl) (bb fun x=>(aI (fun hp=>?_)))
 dsimp only[aG]at hp
 unfold lG at hp
 refine⟨Nat.le_of_ble_eq_true rfl,L0,ah _,?_⟩
 ·unfold ae Tryz.f120
  try unfold l9
  simp only[go_sem,Nat.reduceBEq,Nat.reduceLeDiff,Nat.reduceLT,decide_true,Nat.reduceAdd,Nat.reduceSub,Nat.reduceMul,Int.reduceLE,Int.reduceLT,Int.reduceToNat,Int.reduceNeg,reduceCtorEq]
  all_goals exact cl
@[go_sem] def e_ (l_:List Reach)(k_0:Nat)(s_0:Unit):Unit⊕Unit:=(bif((((k_0:Int) ==0)&&((l_.getD k_0 (default:Reach)).up !=(-1))) ||((decide ((k_0:Int) > 0))&&(!(az ((l_.getD k_0 (default:Reach)).up) 0 (IntKind.i64.wrap ((k_0:Int) - 1))))))then .inl ()else(bif(!(l9 (l_.getD k_0 (default:Reach))))then .inl ()else .inr ()))
def jM (l_:List Reach)(k_0:Nat)(s_0:Unit):Prop:=(l_.length≤bv→(((((k_0:Int) ==0)&&((l_.getD k_0 (default:Reach)).up !=(-1))) ||((decide ((k_0:Int) > 0))&&(!(az ((l_.getD k_0 (default:Reach)).up) 0 (IntKind.i64.wrap ((k_0:Int) - 1))))))=false→(lG (l_.getD k_0 (default:Reach)))))
def jn (l_:List Reach):Bool:=(match ak (e_ l_) l_.length 0 ()with| .inl x_0_0=>false| .inr s_0=>(decide ((l_.length:Int) > 0)))
def mE (l_:List Reach):Prop:=okI (e_ l_) (jM l_) l_.length 0 ()
@[go_sem] def pw:List SV→Option Con:=(pR .reach fun l_=>(pE (.det (mE l_) (.v (.bool (jn l_))))))
theorem ur:FnOk Tryz.prog 93 pw:=by
 have hG:ConsOk Tryz.prog (mkG [(92,fU),(120,rH)] []):=ay (cgc gP (cgc xd cg0)) cg0
 refine aU [.o] mixed am hG (fn:=Tryz.f93) (c:=ae Tryz.f93) (by kernel_rfl) (by kernel_rfl) (by kernel_rfl) (by kernel_rfl) (dw fun l_=>(aI (fun hp=>?_)))
 dsimp only[aG]at hp
 unfold mE at hp
 refine⟨Nat.le_of_ble_eq_true rfl,(fun id st=>bif Nat.beq id 0 then some (LCR (ρ:=Unit) (σ:=Unit) 0 [] [] (fun k_0 s_0=>⟨[(0,.rs .reach l_),(3,.v (.int .i64 (k_0:Int)))],[]⟩) (e_ l_) (jM l_) l_.length () (True) (fun _=>.ret) (fun x_0_0=>⟨[(2,.v (.bool false))],[]⟩) st)else none),?_,?_⟩
 ·unfold ae Tryz.f93
  simp only[al,true_and,and_true]
  ·refine c_ (l_.length≤bv) mixed am hG (by kernel_rfl) (fun _=>rfl) (l_.length:Int) rfl gM (fun hb0 k_0 s_0 hlt0 hq0 hw hc=>⟨L0,ah _,?_⟩) (fun hb0 s_0 hc=>?_) fun hb0 k_0 s_0=>?_
   ·unfold jM at hq0
    try simp only[hw,Int.toNat_natCast]at hq0
    exact jh
   ·exact ji
   ·simp only[go_sem,Nat.reduceBEq,Nat.reduceLeDiff,Nat.reduceLT,decide_true,Nat.reduceAdd,Nat.reduceSub,Nat.reduceMul,Int.reduceLE,Int.reduceLT,Int.reduceToNat,Int.reduceNeg,reduceCtorEq,hb0]
 ·unfold ae Tryz.f93
  try unfold jn
  simp only[go_sem,Nat.reduceBEq,Nat.reduceLeDiff,Nat.reduceLT,decide_true,Nat.reduceAdd,Nat.reduceSub,Nat.reduceMul,Int.reduceLE,Int.reduceLT,Int.reduceToNat,Int.reduceNeg,reduceCtorEq]
  all_goals exact cl
@[go_sem] def im (a0:District)(k_0:Nat)(s_0:Unit):Unit⊕Unit:=(bif(!(az ((a0.crops.getD k_0 (default:Crop)).need) 0 1048576))then .inl ()else .inr ())
@[go_sem] def io (a0:District)(k_1:Nat)(s_1:Unit):Unit⊕Unit:=(bif((!(az ((a0.farms.getD k_1 (default:Farm)).reach) 0 (IntKind.i64.wrap ((a0.reaches.length:Int) - 1)))) ||(!(az ((a0.farms.getD k_1 (default:Farm)).area) 0 1048576)))then .inl ()else(bif((((a0.farms.getD k_1 (default:Farm)).area==0)&&((a0.farms.getD k_1 (default:Farm)).crop !=(-1))) ||((decide ((a0.farms.getD k_1 (default:Farm)).area > 0))&&(!(az ((a0.farms.getD k_1 (default:Farm)).crop) 0 (IntKind.i64.wrap ((a0.crops.length:Int) - 1))))))then .inl ()else .inr ()))
def ma (a0:District):Bool:=(match ak (im a0) a0.crops.length 0 ()with| .inl x_0_0=>false| .inr s_0=>(match ak (io a0) a0.farms.length 0 ()with| .inl x_1_0=>false| .inr s_1=>true))
@[go_sem] def rI:List SV→Option Con:=(pD .district fun a0=>(pE (.det True (.v (.bool (ma a0))))))
theorem xe:FnOk Tryz.prog 94 rI:=by
 have hG:ConsOk Tryz.prog (mkG [(92,fU)] []):=ay (cgc gP cg0) cg0
 refine aU [.o] mixed am hG (fn:=Tryz.f94) (c:=ae Tryz.f94) (by kernel_rfl) (by kernel_rfl) (by kernel_rfl) (by kernel_rfl) (bb fun a0=>(aI (fun hp=>?_)))
 dsimp only[aG]at hp
 refine⟨Nat.le_of_ble_eq_true rfl,(fun id st=>bif Nat.beq id 0 then some (LCR (ρ:=Unit) (σ:=Unit) 1 [] [0] (fun k_0 s_0=>⟨[(1,.ptr 0 0),(3,.v (.int .i64 (k_0:Int)))],[.cells (cellsOf .district a0)]⟩) (im a0) pT a0.crops.length () (True) (fun _=>.ret) (fun x_0_0=>⟨[(2,.v (.bool false))],[.dead]⟩) st)else bif Nat.beq id 2 then some (LCR (ρ:=Unit) (σ:=Unit) 1 [] [0] (fun k_1 s_1=>⟨[(1,.ptr 0 0),(4,.v (.int .i64 (k_1:Int)))],[.cells (cellsOf .district a0)]⟩) (io a0) pT a0.farms.length () (True) (fun _=>.ret) (fun x_1_0=>⟨[(2,.v (.bool false))],[.dead]⟩) st)else none),?_,?_⟩
 ·unfold ae Tryz.f94
  simp only[al,true_and,and_true]
  refine⟨?_,?_⟩
  ·refine c_ (a0.crops.length≤bv) mixed am hG (by kernel_rfl) (fun _=>rfl) (a0.crops.length:Int) rfl gM (fun hb0 k_0 s_0 hlt0 _ hw hc=>⟨L0,ah _,?_⟩) (fun hb0 s_0 hc=>?_) fun hb0 k_0 s_0=>?_
   ·exact fS
   ·exact fT
   ·simp only[go_sem,Nat.reduceBEq,Nat.reduceLeDiff,Nat.reduceLT,decide_true,Nat.reduceAdd,Nat.reduceSub,Nat.reduceMul,Int.reduceLE,Int.reduceLT,Int.reduceToNat,Int.reduceNeg,reduceCtorEq,hb0]
  ·refine c_ (a0.farms.length≤bv) mixed am hG (by kernel_rfl) (fun _=>rfl) (a0.farms.length:Int) rfl gM (fun hb1 k_1 s_1 hlt1 _ hw hc=>⟨L0,ah _,?_⟩) (fun hb1 s_1 hc=>?_) fun hb1 k_1 s_1=>?_
   ·exact fS
   ·exact fT
   ·simp only[go_sem,Nat.reduceBEq,Nat.reduceLeDiff,Nat.reduceLT,decide_true,Nat.reduceAdd,Nat.reduceSub,Nat.reduceMul,Int.reduceLE,Int.reduceLT,Int.reduceToNat,Int.reduceNeg,reduceCtorEq,hb1]
 ·unfold ae Tryz.f94
  try unfold ma
  simp only[go_sem,Nat.reduceBEq,Nat.reduceLeDiff,Nat.reduceLT,decide_true,Nat.reduceAdd,Nat.reduceSub,Nat.reduceMul,Int.reduceLE,Int.reduceLT,Int.reduceToNat,Int.reduceNeg,reduceCtorEq]
  all_goals exact cl
def mb (a0:District)(a1:Right):Bool:=(bif((((!(az a1.farm 0 (IntKind.i64.wrap ((a0.farms.length:Int) - 1)))) ||(!(az a1.reach 0 (IntKind.i64.wrap ((a0.reaches.length:Int) - 1))))) ||(!(az a1.since 0 a1.to))) ||(decide (a1.to≥a0.hours)))then false else(bif(a1.kind==1)then(((((a1.reach==0)&&(az a1.rank 0 1048576))&&(az a1.litres 1 1073741824))&&(az a1.length 1 a1.every))&&(decide (a1.every≤a0.hours)))else(bif(a1.kind==2)then((((((a1.rank==0)&&(a1.litres==0))&&(a1.every==0))&&(a1.length==0))&&(a1.since==0))&&(a1.to==(IntKind.i64.wrap (a0.hours - 1))))else(bif(a1.kind==3)then((((a1.rank==0)&&(a1.litres==0))&&(a1.every==0))&&(a1.length==0))else false))))
@[go_sem] def rJ:List SV→Option Con:=(pD .district fun a0=>(pD .right fun a1=>(pE (.det True (.v (.bool (mb a0 a1)))))))
theorem xf:FnOk Tryz.prog 95 rJ:=by
 have hG:ConsOk Tryz.prog (mkG [(92,fU)] []):=ay (cgc gP cg0) cg0
 refine aU [.o] mixed am hG (fn:=Tryz.f95) (c:=ae Tryz.f95) (by kernel_rfl) (by kernel_rfl) (by kernel_rfl) (by kernel_rfl) (bb fun a0=>(bb fun a1=>(aI (fun hp=>?_))))
 dsimp only[aG]at hp
 refine⟨Nat.le_of_ble_eq_true rfl,L0,ah _,?_⟩
 ·unfold ae Tryz.f95
  try unfold mb
  simp only[go_sem,Nat.reduceBEq,Nat.reduceLeDiff,Nat.reduceLT,decide_true,Nat.reduceAdd,Nat.reduceSub,Nat.reduceMul,Int.reduceLE,Int.reduceLT,Int.reduceToNat,Int.reduceNeg,reduceCtorEq]
  all_goals exact cl
@[go_sem] def ip (a0:District)(k_0:Nat)(s_0:Unit):Unit⊕Unit:=(bif(!(mb a0 (a0.rights.getD k_0 (default:Right))))then .inl ()else .inr ())
@[go_sem] def iq (a0:District)(k_1:Nat)(s_1:Unit):Unit⊕Unit:=(bif(((!(az ((a0.duties.getD k_1 (default:Duty)).farm) 0 (IntKind.i64.wrap ((a0.farms.length:Int) - 1)))) ||(!(az ((a0.duties.getD k_1 (default:Duty)).reach) 0 (IntKind.i64.wrap ((a0.reaches.length:Int) - 1))))) ||(!(az ((a0.duties.getD k_1 (default:Duty)).due) 0 a0.hours)))then .inl ()else .inr ())
def jW (a0:District):Bool:=(bif(((!(az a0.hours 1 4096)) ||(!(az a0.tank.start 0 a0.tank.cap))) ||(decide (a0.tank.cap > 1099511627776)))then false else(bif((!(jn a0.reaches)) ||(!(ma a0)))then false else(match ak (ip a0) a0.rights.length 0 ()with| .inl x_0_0=>false| .inr s_0=>(match ak (iq a0) a0.duties.length 0 ()with| .inl x_1_0=>false| .inr s_1=>true))))
def lH (a0:District):Prop:=((((!(az a0.hours 1 4096)) ||(!(az a0.tank.start 0 a0.tank.cap))) ||(decide (a0.tank.cap > 1099511627776)))=false→(mE a0.reaches))
@[go_sem] def rK:List SV→Option Con:=(pD .district fun a0=>(pE (.det (lH a0) (.v (.bool (jW a0))))))
theorem xg:FnOk Tryz.prog 68 rK:=by
 have hG:ConsOk Tryz.prog (mkG [(92,fU),(93,fun l=>pw (cT [.sl .reach] l)),(94,fun l=>rI (cT [.st .district] l)),(95,fun l=>rJ (cT [.st .district,.st .right] l))] []):=ay (cgc gP (cgc (ur.norm [.sl .reach]) (cgc (xe.norm [.st .district]) (cgc (xf.norm [.st .district,.st .right]) cg0)))) cg0
 refine aU [.o] mixed am hG (fn:=Tryz.f68) (c:=ae Tryz.f68) (by kernel_rfl) (by kernel_rfl) (by kernel_rfl) (by kernel_rfl) (bb fun a0=>(aI (fun hp=>?_)))
 dsimp only[aG]at hp
 unfold lH at hp
 refine⟨Nat.le_of_ble_eq_true rfl,(fun id st=>bif Nat.beq id 0 then some (LCR (ρ:=Unit) (σ:=Unit) 1 [] [0] (fun k_0 s_0=>⟨[(1,.ptr 0 0),(3,.v (.int .i64 (k_0:Int)))],[.cells (cellsOf .district a0)]⟩) (ip a0) pT a0.rights.length () (True) (fun _=>.ret) (fun x_0_0=>⟨[(2,.v (.bool false))],[.dead]⟩) st)else bif Nat.beq id 2 then some (LCR (ρ:=Unit) (σ:=Unit) 1 [] [0] (fun k_1 s_1=>⟨[(1,.ptr 0 0),(4,.v (.int .i64 (k_1:Int)))],[.cells (cellsOf .district a0)]⟩) (iq a0) pT a0.duties.length () (True) (fun _=>.ret) (fun x_1_0=>⟨[(2,.v (.bool false))],[.dead]⟩) st)else none),?_,?_⟩
 ·unfold ae Tryz.f68
  simp only[al,true_and,and_true]
  refine⟨?_,?_⟩
  ·refine c_ (a0.rights.length≤bv) mixed am hG (by kernel_rfl) (fun _=>rfl) (a0.rights.length:Int) rfl gM (fun hb0 k_0 s_0 hlt0 _ hw hc=>⟨L0,ah _,?_⟩) (fun hb0 s_0 hc=>?_) fun hb0 k_0 s_0=>?_
   ·exact fS
   ·exact fT
   ·simp only[go_sem,Nat.reduceBEq,Nat.reduceLeDiff,Nat.reduceLT,decide_true,Nat.reduceAdd,Nat.reduceSub,Nat.reduceMul,Int.reduceLE,Int.reduceLT,Int.reduceToNat,Int.reduceNeg,reduceCtorEq,hb0]
  ·refine c_ (a0.duties.length≤bv) mixed am hG (by kernel_rfl) (fun _=>rfl) (a0.duties.length:Int) rfl gM (fun hb1 k_1 s_1 hlt1 _ hw hc=>⟨L0,ah _,?_⟩) (fun hb1 s_1 hc=>?_) fun hb1 k_1 s_1=>?_
   ·exact fS
   ·exact fT
   ·simp only[go_sem,Nat.reduceBEq,Nat.reduceLeDiff,Nat.reduceLT,decide_true,Nat.reduceAdd,Nat.reduceSub,Nat.reduceMul,Int.reduceLE,Int.reduceLT,Int.reduceToNat,Int.reduceNeg,reduceCtorEq,hb1]
 ·unfold ae Tryz.f68
  try unfold jW
  simp only[go_sem,Nat.reduceBEq,Nat.reduceLeDiff,Nat.reduceLT,decide_true,Nat.reduceAdd,Nat.reduceSub,Nat.reduceMul,Int.reduceLE,Int.reduceLT,Int.reduceToNat,Int.reduceNeg,reduceCtorEq]
  all_goals exact cl
def ir (d:District):Int:=(bif(((((decide ((d.reaches.length:Int) > 64)) ||(decide ((d.farms.length:Int) > 600))) ||(decide ((d.crops.length:Int) > 32))) ||(decide ((d.rights.length:Int) > 256))) ||(decide ((d.duties.length:Int) > 256)))then 2 else(bif(!(jW d))then 191 else 0))
def lI (d:District):Prop:=(d.reaches.length≤bv→((((((decide ((d.reaches.length:Int) > 64)) ||(decide ((d.farms.length:Int) > 600))) ||(decide ((d.crops.length:Int) > 32))) ||(decide ((d.rights.length:Int) > 256))) ||(decide ((d.duties.length:Int) > 256)))=false→(lH d)))
@[go_sem] def rL:List SV→Option Con:=(pD .district fun d=>(pE (.det (lI d) (.v (.int .i64 (ir d))))))
theorem xh:FnOk Tryz.prog 44 rL:=by
 have hG:ConsOk Tryz.prog (mkG [(68,fun l=>rK (cT [.st .district] l))] []):=ay (cgc (xg.norm [.st .district]) cg0) cg0
 refine aU [.o] mixed am hG (fn:=Tryz.f44) (c:=ae Tryz.f44) (by kernel_rfl) (by kernel_rfl) (by kernel_rfl) (by kernel_rfl) (bb fun d=>(aI (fun hp=>?_)))
 dsimp only[aG]at hp
 unfold lI at hp
 refine⟨Nat.le_of_ble_eq_true rfl,L0,ah _,?_⟩
 ·unfold ae Tryz.f44
  try unfold ir
  simp only[go_sem,Nat.reduceBEq,Nat.reduceLeDiff,Nat.reduceLT,decide_true,Nat.reduceAdd,Nat.reduceSub,Nat.reduceMul,Int.reduceLE,Int.reduceLT,Int.reduceToNat,Int.reduceNeg,reduceCtorEq]
  all_goals exact cl
end Go.Sx
end
section
namespace Go.Sx
open Go.RowKit
abbrev RF:= { r:Nat→Res // ∀ k,(r k).n=k}
def La (items:List (List SV))(r:RF):List SV→Res→Option YCon:=itY items r.1
@[go_sem] theorem T8 {items:List (List SV)}{r:RF}{k:Nat}{args:List SV}:La items r args (r.1 (k+1))=some (BD (items[k]? =some args) r.1 (k+2)):=HL r.2 k args
section
variable {ρ σ:Type}
def lcy (pre:Prop)(run:ρ⊕σ)(exE:ρ→Ex)(outE:ρ→St)(outN:σ→St)(stp:St):LCon where
 α:=Option (ρ⊕σ)
 pre:=pre
 post:=fun|none=>True|some r=>r=run
 ex:=fun|none=>.ret|some (.inl x) =>exE x|some (.inr _) =>.normal
 out:=fun|none=>stp|some (.inl x) =>outE x|some (.inr s) =>outN s
def LCY (m:Nat)(ns:List NLoc)(js:List Nat)(D:Nat→σ→St)(step:Nat→σ→ρ⊕σ)(p:Nat→σ→Prop)(n:Nat)(s0:σ)(B:Prop)(exE:ρ→Ex)(outE:ρ→St)(stp:St)(st:St):LCon:=
 lcy (o_ m ns js st (D 0 s0)∧B∧okI step p n 0 s0) (ak step n 0 s0) exE outE (D n) stp
variable {m:Nat}{ns:List NLoc}{js:List Nat}{step:Nat→σ→ρ⊕σ}{p:Nat→σ→Prop}{n:Nat}{s0:σ}{B:Prop}{exE:ρ→Ex}{outE:ρ→St}{stp st:St}{Q:Ex→St→Prop}{D:Nat→σ→St}
theorem F9 {pre:Prop}{run:ρ⊕σ}{outN:σ→St}:nh Q (some (lcy pre run exE outE outN stp))=(pre∧(∀ x,run=.inl x→Q (exE x) (outE x))∧(∀ s,run=.inr s→Q .normal (outN s))∧Q .ret stp):=by
 apply propext
 constructor
 ·rintro⟨h1,h2⟩
  exact⟨h1,fun x hx=>h2 (some (.inl x)) hx.symm,fun s hs=>h2 (some (.inr s)) hs.symm,h2 none trivial⟩
 ·rintro⟨h1,h2,h3,h4⟩
  refine⟨h1,fun r hr=>?_⟩
  match r,hr with
  |none,_=>exact h4
  |some (.inl x),hr=>exact h2 x hr.symm
  |some (.inr s),hr=>exact h3 s hr.symm
@[go_sem] theorem Qw:nh Q (some (LCY m ns js D step p n s0 B exE outE stp st))=((o_ m ns js st (D 0 s0)∧B∧okI step p n 0 s0)∧(∀ x,ak step n 0 s0=.inl x→Q (exE x) (outE x))∧(∀ s,ak step n 0 s0=.inr s→Q .normal (D n s))∧Q .ret stp):=F9
def cY (step:Nat→σ→ρ⊕σ)(exE:ρ→Ex)(outE:ρ→St)(D:Nat→σ→St)(stp:St)(m id k:Nat)(s:σ):Ex→St→Prop
 | .normal,st=>oD D m k st (step k s)
 | .exit j,st=>kg exE outE m (bif Nat.beq j id then .normal else .exit j) st (step k s)
 | .ret,st=>kg exE outE m .ret st (step k s)∨fQ stp m st
 | .pan x,st=>kg exE outE m (.pan x) st (step k s)
variable {id k j:Nat}{s:σ}{x:Value}{e e':Ex}
@[go_sem] theorem Qy:cY step exE outE D stp m id k s .normal st=oD D m k st (step k s):=(rfl)
@[go_sem] theorem T9:cY step exE outE D stp m id k s (.exit j) st=kg exE outE m (bif Nat.beq j id then .normal else .exit j) st (step k s):=(rfl)
@[go_sem] theorem U6:cY step exE outE D stp m id k s .ret st=(kg exE outE m .ret st (step k s)∨fQ stp m st):=(rfl)
@[go_sem] theorem U7:cY step exE outE D stp m id k s (.pan x) st=kg exE outE m (.pan x) st (step k s):=(rfl)
@[congr] theorem Sq {st':St}(h:st=st')(he:e=e'):cY step exE outE D stp m id k s e st=cY step exE outE D stp m id k s e' st':=by rw[h,he]
end
section
variable {P:Program}{ρ σ:Type}{ts:Tis}{G:Cons}{ro:Option Nat}{N:Nat}{id:Nat}{c:Code}{C:St→Option LCon}{m:Nat}{ns:List NLoc}{js:List Nat}{step:Nat→σ→ρ⊕σ}{p:Nat→σ→Prop}{n:Nat}{s0:σ}{exE:ρ→Ex}{outE:ρ→St}{D:Nat→σ→St}{stp:St}
theorem N9 {n0:Nat}(hn0:n0=m){s:σ}{k:Nat}(hlt:k<n){I:Nat×σ→Prop}{μ:Nat×σ→Nat}{outN:σ→St}{pre:Prop}{run:ρ⊕σ}
  (hI:∀ s',step k s=.inr s'→I (k+1,s')∧μ (k+1,s') <μ (k,s)) (hx:∀ x,step k s=.inl x→run=.inl x):
  ∀ e st',cY step exE outE D stp m id k s e st'→o4 (fun x:Nat×σ=>D x.1 x.2) I μ n0 (k,s) id (fun e st'=>∃ r js,(lcy pre run exE outE outN stp).post r∧(lcy pre run exE outE outN stp).ex r=e∧n0≤((lcy pre run exE outE outN stp).out r).h.length∧Sub js n0 st' ((lcy pre run exE outE outN stp).out r)) e st':=by
 subst hn0
 have hfin:∀ e st',kg exE outE n0 e st' (step k s)→∃ r js,(lcy pre run exE outE outN stp).post r∧(lcy pre run exE outE outN stp).ex r=e∧n0≤((lcy pre run exE outE outN stp).out r).h.length∧Sub js n0 st' ((lcy pre run exE outE outN stp).out r):=by
  intro e st' q
  cases hs:step k s with
  |inr s'=>rw[hs]at q;exact q.elim
  |inl x=>
   rw[hs]at q
   obtain⟨q2,js,q3,q4⟩:=q
   exact⟨some (.inl x),js,(hx x hs).symm,q2,q3,q4⟩
 intro e st' hq
 cases e with
 |normal=>
  change oD D n0 k st' (step k s)at hq
  cases hs:step k s with
  |inl x=>rw[hs]at hq;exact hq.elim
  |inr s'=>
   rw[hs]at hq
   obtain⟨js,q3,q4⟩:=hq
   obtain⟨i1,i2⟩:=hI s' hs
   exact⟨(k+1,s'),js,i1,i2,q3,q4⟩
 |exit j=>
  change kg exE outE n0 (bif Nat.beq j id then .normal else .exit j) st' (step k s)at hq
  show bif Nat.beq j id then _ else _
  cases hb:Nat.beq j id with
  |true=>rw[hb]at hq;exact hfin _ _ hq
  |false=>rw[hb]at hq;exact hfin _ _ hq
 |ret=>
  rcases hq with hq|hq
  ·exact hfin _ _ hq
  ·obtain⟨js,q3,q4⟩:=hq
   exact⟨none,js,trivial,rfl,q3,q4⟩
 |pan x=>exact hfin _ _ hq
theorem Ic {B:Prop}(hm:P.follows .mixedOrders=true)(hts:ts.ok P)(hG:ConsOk P G)(hc:ct N c=true)(hC:∀ st,C st=some (LCY m ns js D step p n s0 B exE outE stp st))(M:Int)(hn:n=M.toNat)(hB:B→M<9223372036854775808)
  (h:B→∀ k s,k<n→p k s→IntKind.i64.wrap ((k:Int)+1)=((k+1:Nat):Int)→decide ((k:Int) <M)=true→∃ L,al P ro N L c∧exec ts G L c (D k s) (cY step exE outE D stp m id k s))
  (h2:B→∀ s,decide ((n:Int) <M)=false→exec ts G L0 c (D n s) (cZ (D n s) m id)):iX P ro N id (.loop c) C:=by
 refine s7 hm hts hG hc fun st lc hC' hp=>?_
 rw[hC st]at hC'
 cases hC'
 obtain⟨⟨hlen,hok,hle,hsub⟩,hB',h1⟩:=hp
 refine⟨Nat×σ,fun x=>D x.1 x.2,fun x=>x.1≤n∧okI step p (n - x.1) x.1 x.2∧ak step (n - x.1) x.1 x.2=ak step n 0 s0,fun x=>n - x.1,(0,s0),mkN ns st,js,⟨Nat.zero_le _,by simpa using h1,by simp⟩,sm ns st st (.refl _) hok,by rw[hlen];exact hle,by rw[hlen];exact hsub,?_⟩
 rintro⟨k,s⟩ ⟨hk,hJ,hrun⟩
 simp only at hk hJ hrun
 rcases Nat.lt_or_ge k n with hlt|hge
 ·rw[show n - k=(n - k - 1)+1 by omega]at hrun hJ
  obtain⟨L,hl,hex⟩:=h hB' k s hlt hJ.1 (HP (hn▸hlt) (hB hB')) (decide_eq_true (by omega))
  have hI:∀ s',step k s=.inr s'→okI step p (n - (k+1)) (k+1) s'∧ak step (n - (k+1)) (k+1) s'=ak step n 0 s0:=fun s' hs=>by
   have:=hJ.2 s' hs
   rw[show n - k - 1=n - (k+1) by omega]at this hrun
   simp only[ak,hs]at hrun
   exact⟨this,hrun⟩
  have hx:∀ x,step k s=.inl x→ak step n 0 s0=.inl x:=fun x hs=>by
   simp only[ak,hs]at hrun
   exact hrun.symm
  exact⟨L,_,hl,fun e st' q=>N9 hlen hlt (fun s' hs=>⟨⟨hlt,hI s' hs⟩,by simp only;omega⟩) hx e st' q,hex⟩
 ·have hkn:k=n:=by omega
  subst hkn
  have hex:=h2 hB' s (by rw[decide_eq_false_iff_not];omega)
  refine⟨L0,_,ah c,fun e st' hq=>?_,hex⟩
  simp only[Nat.sub_self,ak]at hrun
  cases e with
  |exit j=>
   change bif Nat.beq j id then fQ (D k s) m st' else False at hq
   show bif Nat.beq j id then _ else _
   cases hb:Nat.beq j id with
   |true=>
    rw[hb]at hq
    obtain⟨js,q3,q4⟩:=hq
    exact⟨some (.inr s),js,hrun,rfl,by rw[hlen];exact q3,by rw[hlen];exact q4⟩
   |false=>rw[hb]at hq;exact hq.elim
  |_=>exact hq.elim
end
def mc (n:Nat):List Ob:=List.replicate n .dead
def Id (items:List (List SV))(r:RF)(n:Nat):Ex→St→Prop
 | .normal,st=>fQ ⟨[],.ab (r.1 0)::mc n⟩ (n+1) ⟨[],st.h⟩∨fQ ⟨[],.ab (r.1 (items.length+1))::mc n⟩ (n+1) ⟨[],st.h⟩
 | .ret,st=>fQ ⟨[],.ab (r.1 0)::mc n⟩ (n+1) ⟨[],st.h⟩∨fQ ⟨[],.ab (r.1 (items.length+1))::mc n⟩ (n+1) ⟨[],st.h⟩
 |_,_=>False
section
variable {items:List (List SV)}{r:RF}{n:Nat}{st:St}{e e':Ex}
@[go_sem] theorem Lb:Id items r n .normal st=(fQ ⟨[],.ab (r.1 0)::mc n⟩ (n+1) ⟨[],st.h⟩∨fQ ⟨[],.ab (r.1 (items.length+1))::mc n⟩ (n+1) ⟨[],st.h⟩):=(rfl)
@[go_sem] theorem Qz:Id items r n .ret st=(fQ ⟨[],.ab (r.1 0)::mc n⟩ (n+1) ⟨[],st.h⟩∨fQ ⟨[],.ab (r.1 (items.length+1))::mc n⟩ (n+1) ⟨[],st.h⟩):=(rfl)
@[go_sem] theorem T_:mc 0=[]:=(rfl)
@[go_sem] theorem Ua:mc 1=[.dead]:=(rfl)
@[go_sem] theorem Ub:mc 2=[.dead,.dead]:=(rfl)
@[go_sem] theorem Uc:mc 3=[.dead,.dead,.dead]:=(rfl)
@[go_sem] theorem Ud:mc 4=[.dead,.dead,.dead,.dead]:=(rfl)
end
theorem BJ {js:List Nat}{n0:Nat}{h h':List Ob}(q:Sub js n0 ⟨[],h⟩ ⟨[],h'⟩):Sub js n0 ⟨[(0,.tup [])],h⟩ ⟨[(0,.tup [])],h'⟩:=by
 refine⟨q.1,?_,q.2.2⟩
 simp only[Fo,lk]
 exact⟨⟨rfl,rfl⟩,trivial⟩
open Classical in
theorem N_ {P:Program} {ts:Tis} {G:RF→Cons} (hm:P.follows .mixedOrders=true) (hts:ts.ok P) {f:FuncId} {fn:Func} {c:Code} (hf:P.funcs[f]? =some fn) (hb:fn.body=some c) (hname:(fn.name== "runtime.NumGoroutine")=false) (hc:ct fn.ntmps c=true) (hr:fn.results.toList=[])
  {items:List (List SV)} {mk:SV→List SV} {hs:List Ob} {n:Nat} (hn:hs.length=n)
  (h:∀ r:RF,YOk P (La items r)→ConsOk P (G r)∧(mk (.os 0)).length≤fn.ntmps∧∃ L,al P none fn.ntmps L c∧exec ts (G r) L c ⟨j8 0 (mk (.os 0)),.ab (r.1 1)::hs⟩ (Id items r n))
  (he:∀ (args:Array Value) (w:World),(callFunc f args).run P w=.ok (.enter f args) w):DB P f mk hs items:=by
 refine Mi (fun r0 hr0 hy=>?_) he
 obtain⟨hG,h1,L,h2,h3⟩:=h ⟨r0,hr0⟩ hy
 refine⟨fun l o=>if l=mk (.os 0)∧o=.ab (r0 1)::hs then some { α:=Bool,pre:=True,post:=fun _=>True,res:=fun b=>.ret (.tup []) (.ab (r0 (if b then items.length+1 else 0))::mc n)}else none,?_,_,if_pos ⟨rfl,rfl⟩,trivial,fun b _=>⟨_,_,_,rfl,by cases b <;>simp⟩⟩
 refine wT hm hts hG hf hb hname hc fun l o con hC _=>?_
 split at hC
 rotate_left
 ·cases hC
 rename_i hlo
 obtain⟨rfl,rfl⟩:=hlo
 cases hC
 refine⟨h1,L,_,h2,fun e st hq=>?_,h3⟩
 have key:∀ st:St,(fQ ⟨[],.ab (r0 0)::mc n⟩ (n+1) ⟨[],st.h⟩∨fQ ⟨[],.ab (r0 (items.length+1))::mc n⟩ (n+1) ⟨[],st.h⟩)→sJ (Ob.ab (r0 1)::hs).length { α:=Bool,pre:=True,post:=fun _=>True,res:=fun b=>.ret (.tup []) (.ab (r0 (if b then items.length+1 else 0))::mc n)} (kK (jG ts st fn.results.toList)) st.h:=fun st q=>by
  rw[hr]
  show ∃ r s' h' js,_
  rcases q with⟨js,q1,q2⟩ | ⟨js,q1,q2⟩
  ·exact⟨false,_,_,js,trivial,rfl,by rw[List.length_cons,hn];exact q1,by rw[List.length_cons,hn];exact BJ q2⟩
  ·exact⟨true,_,_,js,trivial,rfl,by rw[List.length_cons,hn];exact q1,by rw[List.length_cons,hn];exact BJ q2⟩
 cases e with
 |normal=>exact key st hq
 |ret=>exact key st hq
 |exit j=>exact hq.elim
 |pan x=>exact hq.elim
section
variable {ρ σ τ:Type}
theorem ut {step:τ→σ→ρ⊕σ}:∀ {a b:List τ} {s s':σ},fN step a s=.inr s'→fN step (a++b) s=fN step b s'
 | [],_,_,_,h=>by simp only[fN,Sum.inr.injEq]at h;subst h;rfl
 |x::a,b,s,s',h=>by
  simp only[List.cons_append,fN]at h ⊢
  cases hs:step x s with
  |inl y=>rw[hs]at h;cases h
  |inr s1=>rw[hs]at h;simp only at h ⊢;exact ut h
theorem BK {step:τ→σ→ρ⊕σ}{p:τ→σ→Prop}:∀ {a b:List τ} {s s':σ},fN step a s=.inr s'→okL step p (a++b) s→okL step p b s'
 | [],_,_,_,h,hk=>by simp only[fN,Sum.inr.injEq]at h;subst h;exact hk
 |x::a,b,s,s',h,hk=>by
  simp only[List.cons_append,fN]at h hk
  cases hs:step x s with
  |inl y=>rw[hs]at h;cases h
  |inr s1=>rw[hs]at h;exact BK h (hk.2 s1 hs)
def LCP (m:Nat)(ns:List NLoc)(js:List Nat)(D:List Nat→Option Nat→σ→St)(step:τ→σ→ρ⊕σ)(p:τ→σ→Prop)(l:List τ)(s0:σ)(exE:ρ→Ex)(outE:ρ→St)(outN:σ→St)(st:St):LCon where
 α:=ρ⊕σ
 pre:=o_ m ns js st (D (List.range l.length) none s0)∧∀ L,L.Perm l→okL step p L s0
 post:=fun r=>∃ L,L.Perm l∧fN step L s0=r
 ex:=fun| .inl x=>exE x| .inr _=>.normal
 out:=fun| .inl x=>outE x| .inr s=>outN s
variable {m:Nat}{ns:List NLoc}{js:List Nat}{step:τ→σ→ρ⊕σ}{p:τ→σ→Prop}{l:List τ}{s0:σ}{exE:ρ→Ex}{outE:ρ→St}{outN:σ→St}{st:St}{Q:Ex→St→Prop}{D:List Nat→Option Nat→σ→St}
@[go_sem] theorem QA:nh Q (some (LCP m ns js D step p l s0 exE outE outN st))=((o_ m ns js st (D (List.range l.length) none s0)∧∀ L,L.Perm l→okL step p L s0)∧∀ L,L.Perm l→(∀ x,fN step L s0=.inl x→Q (exE x) (outE x))∧∀ s,fN step L s0=.inr s→Q .normal (outN s)):=by
 apply propext
 constructor
 ·rintro⟨h1,h2⟩
  exact⟨h1,fun L hL=>⟨fun x hx=>h2 (.inl x) ⟨L,hL,hx⟩,fun s hs=>h2 (.inr s) ⟨L,hL,hs⟩⟩⟩
 ·rintro⟨h1,h2⟩
  refine⟨h1,fun r ⟨L,hL,hr⟩ =>?_⟩
  cases r with
  |inl x=>exact(h2 L hL).1 x hr
  |inr s=>exact(h2 L hL).2 s hr
variable {P:Program}{ts:Tis}{G:Cons}{ro:Option Nat}{N id:Nat}{c:Code}{C:St→Option LCon}
theorem Ie (d:τ)(it:Nat)(hm:P.follows .mixedOrders=true)(hts:ts.ok P)(hG:ConsOk P G)(hc:ct N c=true)(hC:∀ st,C st=some (LCP m ns js D step p l s0 exE outE outN st))
  (h:∀ left cur s,(∀ j,j∈left→j<l.length∧p (l.getD j d) s)→∃ L,al P ro N L c∧exec ts G L c (D left cur s) (cM step l d exE outE outN D m id it left s)):iX P ro N id (.loop c) C:=by
 refine s7 hm hts hG hc fun st lc hC' hp=>?_
 rw[hC st]at hC'
 cases hC'
 obtain⟨⟨hlen,hok,hle,hsub⟩,hO⟩:=hp
 subst hlen
 have hfix:∀ q:List Nat,q.Perm (List.range l.length)→(q.map fun j=>l.getD j d).Perm l:=fun q hq=>by
  have:=hq.map (fun j=>l.getD j d)
  rwa[wZ]at this
 refine⟨List Nat×Option Nat×σ,fun x=>D x.1 x.2.1 x.2.2,fun x=>∃ q:List Nat,(q++x.1).Perm (List.range l.length)∧fN step (q.map fun j=>l.getD j d) s0=.inr x.2.2,fun x=>x.1.length,(List.range l.length,none,s0),mkN ns st,js,⟨[],.refl _,rfl⟩,sm ns st st (.refl _) hok,hle,hsub,?_⟩
 rintro⟨left,cur,s⟩ ⟨q,hq,hrun⟩
 simp only at hq hrun
 have hmem:∀ j,j∈left→(q++j::left.erase j).Perm (List.range l.length):=fun j hj=>((List.perm_cons_erase hj).symm.append_left q).trans hq
 have hp0:∀ j,j∈left→j<l.length∧p (l.getD j d) s:=fun j hj=>by
  refine⟨List.mem_range.1 (hq.mem_iff.1 (List.mem_append_right _ hj)),?_⟩
  have:=hO _ (hfix _ (hmem j hj))
  rw[List.map_append]at this
  exact(BK hrun this).1
 obtain⟨L,hl,hex⟩:=h left cur s hp0
 refine⟨L,_,hl,?_,hex⟩
 have hfin:∀ e st' o,exC step l d exE outE st.h.length left s e st' o→∃ r js,(LCP st.h.length ns js D step p l s0 exE outE outN st).post r∧(LCP st.h.length ns js D step p l s0 exE outE outN st).ex r=e∧st.h.length≤((LCP st.h.length ns js D step p l s0 exE outE outN st).out r).h.length∧Sub js st.h.length st' ((LCP st.h.length ns js D step p l s0 exE outE outN st).out r):=by
  intro e st' o z
  cases o with
  |none=>exact z.elim
  |some j=>
   obtain⟨hj,z⟩:=z
   cases hs:step (l.getD j d) s with
   |inr s'=>rw[hs]at z;exact z.elim
   |inl x=>
    rw[hs]at z
    obtain⟨q2,js2,q3,q4⟩:=z
    refine⟨.inl x,js2,⟨_,hfix _ (hmem j hj),?_⟩,q2,q3,q4⟩
    rw[List.map_append,ut hrun]
    simp only[List.map_cons,fN,hs]
 intro e st' hz
 cases e with
 |normal=>
  change nxC step l d D st.h.length left s st' (sj (ag st'.h it))at hz
  cases ho:sj (ag st'.h it)with
  |none=>rw[ho]at hz;exact hz.elim
  |some j=>
   rw[ho]at hz
   obtain⟨hj,hz⟩:=hz
   cases hs:step (l.getD j d) s with
   |inl x=>rw[hs]at hz;exact hz.elim
   |inr s'=>
    rw[hs]at hz
    obtain⟨js2,q3,q4⟩:=hz
    refine⟨(left.erase j,some j,s'),js2,⟨q++[j],?_,?_⟩,?_,q3,q4⟩
    ·rw[List.append_assoc];exact hmem j hj
    ·rw[List.map_append,ut hrun]
     simp only[List.map_cons,List.map_nil,fN,hs]
    ·have:=List.length_pos_of_mem hj
     simp only[List.length_erase_of_mem hj];omega
 |exit j=>
  have hz':(bif Nat.beq j id then(left=[]→fQ (outN s) st.h.length st')∧(left≠[]→exC step l d exE outE st.h.length left s .normal st' (sj (ag st'.h it)))else exC step l d exE outE st.h.length left s (.exit j) st' (sj (ag st'.h it))):=hz
  show bif Nat.beq j id then _ else _
  cases hb:Nat.beq j id with
  |true=>
   rw[hb]at hz'
   simp only[cond_true]at hz' ⊢
   by_cases hlt:left=[]
   ·obtain⟨js2,q3,q4⟩:=hz'.1 hlt
    refine⟨.inr s,js2,⟨_,hfix q (by rw[hlt,List.append_nil]at hq;exact hq),hrun⟩,rfl,q3,q4⟩
   ·exact hfin _ _ _ (hz'.2 hlt)
  |false=>
   rw[hb]at hz'
   exact hfin _ _ _ hz'
 |ret=>exact hfin _ _ _ hz
 |pan x=>exact hfin _ _ _ hz
end
theorem fkY {st2 st:St}{n0:Nat}(js:List Nat)(h1:n0≤st2.h.length:=by(first|(show _≤_;decide) |(simp only[*,go_sem,Nat.reduceBEq,Nat.reduceLeDiff,Nat.reduceAdd,Nat.reduceSub,Nat.reduceMul,Int.reduceLE,Int.reduceLT,Int.reduceToNat,Int.reduceNeg,reduceCtorEq];done) |(simp only[*,go_sem,Nat.reduceBEq,Nat.reduceLeDiff,Nat.reduceAdd,Nat.reduceSub,Nat.reduceMul,Int.reduceLE,Int.reduceLT,Int.reduceToNat,Int.reduceNeg,reduceCtorEq];(repeat' (first|with_reducible refine And.intro ?_ ?_|((with_reducible show _≠_);first|assumption|omega|(simp_all [aX,bu];done) |grind) |with_reducible intro _)) <;>(first|rfl|decide|assumption|omega|(simp_all [aX,bu];done) |fail))))(h2:Sub js n0 st st2:=by(first|(show _≤_;decide) |(simp only[*,go_sem,Nat.reduceBEq,Nat.reduceLeDiff,Nat.reduceAdd,Nat.reduceSub,Nat.reduceMul,Int.reduceLE,Int.reduceLT,Int.reduceToNat,Int.reduceNeg,reduceCtorEq];done) |(simp only[*,go_sem,Nat.reduceBEq,Nat.reduceLeDiff,Nat.reduceAdd,Nat.reduceSub,Nat.reduceMul,Int.reduceLE,Int.reduceLT,Int.reduceToNat,Int.reduceNeg,reduceCtorEq];(repeat' (first|with_reducible refine And.intro ?_ ?_|((with_reducible show _≠_);first|assumption|omega|(simp_all [aX,bu];done) |grind) |with_reducible intro _)) <;>(first|rfl|decide|assumption|omega|(simp_all [aX,bu];done) |fail)))):fQ st2 n0 st:=Af js h1 h2
theorem Oa {α:Type 1}{G:List SV→α→Prop}{X:SV}{k:List SV→Option α}(h:∀ l c,k l=some c→G (X::l) c):∀ l c,pQ X k l=some c→G l c:=fun l c hc=>by
 obtain⟨r,rfl,h1⟩:=N4 hc;exact h r c h1
end Go.Sx
end
section
namespace Go.Sx
open Go.Proofs
set_option maxRecDepth 100000
set_option linter.unusedSimpArgs false
def k9 (n:Int)(d:Int):Int:=(IntKind.i64.wrap (Int.tdiv (IntKind.i64.wrap (n - (Int.tmod (IntKind.i64.wrap ((Int.tmod n d)+d)) d))) d))
def mO (n:Int)(d:Int):Prop:=(d≠0∧(d≠0∧d≠0))
@[go_sem] def th:List SV→Option Con:=(pI fun n=>(pI fun d=>(pE (.det (mO n d) (.v (.int .i64 (k9 n d)))))))
theorem ya:FnOk Tryz.prog 61 th:=by
 have hG:ConsOk Tryz.prog (mkG [] []):=ay cg0 cg0
 refine aU [.o] mixed am hG (fn:=Tryz.f61) (c:=ae Tryz.f61) (by kernel_rfl) (by kernel_rfl) (by kernel_rfl) (by kernel_rfl) (co fun n=>(co fun d=>(aI (fun hp=>?_))))
 dsimp only[aG]at hp
 unfold mO at hp
 refine⟨Nat.le_of_ble_eq_true rfl,L0,ah _,?_⟩
 ·unfold ae Tryz.f61
  try unfold k9
  simp only[go_sem,Nat.reduceBEq,Nat.reduceLeDiff,Nat.reduceLT,decide_true,Nat.reduceAdd,Nat.reduceSub,Nat.reduceMul,Int.reduceLE,Int.reduceLT,Int.reduceToNat,Int.reduceNeg,reduceCtorEq]
  all_goals exact cl
def ei (a:Ratio)(n:Int):Int×Int×Int:=(bif((aF a) !=0)then(0,0,(aF a))else(bif((decide (n< (-1073741824))) ||(decide (n > 1073741824)))then(0,0,1)else((k9 (IntKind.i64.wrap (a.n*n)) a.d),(IntKind.i64.wrap (0 - (k9 (IntKind.i64.wrap ((IntKind.i64.wrap (0 - a.n))*n)) a.d))),0)))
def rM (a:Ratio)(n:Int):Prop:=(((aF a) !=0)=false→(((decide (n< (-1073741824))) ||(decide (n > 1073741824)))=false→((mO (IntKind.i64.wrap (a.n*n)) a.d)∧(mO (IntKind.i64.wrap ((IntKind.i64.wrap (0 - a.n))*n)) a.d))))
theorem yb {a:Ratio}(h:(aF a !=0)=false):1≤a.d:=by
 unfold aF at h
 by_cases hd:a.d<1
 ·simp[hd]at h
 ·omega
theorem xi (a:Ratio)(n:Int):rM a n:=fun h _=>by
 have:=yb h
 exact⟨⟨by omega,by omega,by omega⟩,⟨by omega,by omega,by omega⟩⟩
@[go_sem] def rN:List SV→Option Con:=(pD .ratio fun a=>(pI fun n=>(pE (.det True (.tup [.v (.int .i64 ((ei a n).1)),.v (.int .i64 ((ei a n).2.1)),.v (.int .i64 ((ei a n).2.2))])))))
theorem xj:FnOk Tryz.prog 32 rN:=by
 have hG:ConsOk Tryz.prog (mkG [(60,lD),(61,th)] []):=ay (cgc nv (cgc ya cg0)) cg0
 refine aU [.o,.o,.o] mixed am hG (fn:=Tryz.f32) (c:=ae Tryz.f32) (by kernel_rfl) (by kernel_rfl) (by kernel_rfl) (by kernel_rfl) (bb fun a=>(co fun n=>(aI (fun hp=>?_))))
 dsimp only[aG]at hp
 have hp:=xi a n
 unfold rM at hp
 refine⟨Nat.le_of_ble_eq_true rfl,L0,ah _,?_⟩
 ·unfold ae Tryz.f32
  try unfold ei
  simp only[go_sem,Nat.reduceBEq,Nat.reduceLeDiff,Nat.reduceLT,decide_true,Nat.reduceAdd,Nat.reduceSub,Nat.reduceMul,Int.reduceLE,Int.reduceLT,Int.reduceToNat,Int.reduceNeg,reduceCtorEq]
  all_goals exact cl
def jN (n:Int)(d:Int):Ratio×Int:=(bif(d==0)then(({ n:=0,d:=0}:Ratio),120)else(bif(decide ((if(IntKind.u64.wrap (Int.tdiv (aj n) ((rb (Int.toNat (aj n)) (Int.toNat (aj d)):Nat):Int))) < (IntKind.u64.wrap (Int.tdiv (aj d) ((rb (Int.toNat (aj n)) (Int.toNat (aj d)):Nat):Int)))then(IntKind.u64.wrap (Int.tdiv (aj d) ((rb (Int.toNat (aj n)) (Int.toNat (aj d)):Nat):Int)))else(IntKind.u64.wrap (Int.tdiv (aj n) ((rb (Int.toNat (aj n)) (Int.toNat (aj d)):Nat):Int)))) > 1073741824))then(({ n:=0,d:=0}:Ratio),2)else(bif((decide (n<0)) !=(decide (d<0)))then(({ n:=(IntKind.i64.wrap (0 - (IntKind.i64.wrap (IntKind.u64.wrap (Int.tdiv (aj n) ((rb (Int.toNat (aj n)) (Int.toNat (aj d)):Nat):Int)))))),d:=(IntKind.i64.wrap (IntKind.u64.wrap (Int.tdiv (aj d) ((rb (Int.toNat (aj n)) (Int.toNat (aj d)):Nat):Int))))}:Ratio),0)else(({ n:=(IntKind.i64.wrap (IntKind.u64.wrap (Int.tdiv (aj n) ((rb (Int.toNat (aj n)) (Int.toNat (aj d)):Nat):Int)))),d:=(IntKind.i64.wrap (IntKind.u64.wrap (Int.tdiv (aj d) ((rb (Int.toNat (aj n)) (Int.toNat (aj d)):Nat):Int))))}:Ratio),0))))
def mP (n:Int)(d:Int):Prop:=((d==0)=false→((0≤(aj n)∧0≤(aj d))∧(((rb (Int.toNat (aj n)) (Int.toNat (aj d)):Nat):Int)≠0∧((rb (Int.toNat (aj n)) (Int.toNat (aj d)):Nat):Int)≠0)))
@[go_sem] def tj:List SV→Option Con:=(pI fun n=>(pI fun d=>(pE (.det (mP n d) (.tup [.agg (cellsOf .ratio ((jN n d).1)),.v (.int .i64 ((jN n d).2))])))))
theorem yc:FnOk Tryz.prog 143 tj:=by
 have hG:ConsOk Tryz.prog (mkG [(88,C83),(89,kh)] []):=ay (cgc H6 (cgc nu cg0)) cg0
 refine aU [.st .ratio,.o] mixed am hG (fn:=Tryz.f143) (c:=ae Tryz.f143) (by kernel_rfl) (by kernel_rfl) (by kernel_rfl) (by kernel_rfl) (co fun n=>(co fun d=>(aI (fun hp=>?_))))
 dsimp only[aG]at hp
 unfold mP at hp
 refine⟨Nat.le_of_ble_eq_true rfl,L0,ah _,?_⟩
 ·unfold ae Tryz.f143
  try unfold jN
  simp only[go_sem,Nat.reduceBEq,Nat.reduceLeDiff,Nat.reduceLT,decide_true,Nat.reduceAdd,Nat.reduceSub,Nat.reduceMul,Int.reduceLE,Int.reduceLT,Int.reduceToNat,Int.reduceNeg,reduceCtorEq,C83]
  all_goals exact cl
def ej (a:Ratio)(b:Ratio):Int×Int:=((IntKind.i64.wrap ((IntKind.i64.wrap (a.n*b.d))+(IntKind.i64.wrap (b.n*a.d)))),(IntKind.i64.wrap (a.d*b.d)))
@[go_sem] def rO:List SV→Option Con:=(pD .ratio fun a=>(pD .ratio fun b=>(pE (.det True (.tup [.v (.int .i64 ((ej a b).1)),.v (.int .i64 ((ej a b).2))])))))
theorem xk:FnOk Tryz.prog 118 rO:=by
 have hG:ConsOk Tryz.prog (mkG [] []):=ay cg0 cg0
 refine aU [.o,.o] mixed am hG (fn:=Tryz.f118) (c:=ae Tryz.f118) (by kernel_rfl) (by kernel_rfl) (by kernel_rfl) (by kernel_rfl) (bb fun a=>(bb fun b=>(aI (fun hp=>?_))))
 dsimp only[aG]at hp
 refine⟨Nat.le_of_ble_eq_true rfl,L0,ah _,?_⟩
 ·unfold ae Tryz.f118
  try unfold ej
  simp only[go_sem,Nat.reduceBEq,Nat.reduceLeDiff,Nat.reduceLT,decide_true,Nat.reduceAdd,Nat.reduceSub,Nat.reduceMul,Int.reduceLE,Int.reduceLT,Int.reduceToNat,Int.reduceNeg,reduceCtorEq]
  all_goals exact cl
def d8 (a:Ratio)(b:Ratio):Ratio×Int:=(bif(((aF a) !=0) ||((aF b) !=0))then(({ n:=0,d:=0}:Ratio),120)else(((jN ((ej a b).1) ((ej a b).2)).1),(jN ((ej a b).1) ((ej a b).2)).2))
def iu (a:Ratio)(b:Ratio):Prop:=((((aF a) !=0) ||((aF b) !=0))=false→(mP ((ej a b).1) ((ej a b).2)))
@[go_sem] noncomputable def mf:List SV→Option Con:=(pQ (.agg [.fn 118 [] []]) (pD .ratio fun a=>(pD .ratio fun b=>(pE (.det (iu a b) (.tup [.agg (cellsOf .ratio ((d8 a b).1)),.v (.int .i64 ((d8 a b).2))]))))))
theorem pH:FnOk Tryz.prog 119 mf:=by
 have hG:ConsOk Tryz.prog (mkG [(60,lD),(118,rO),(143,tj)] []):=ay (cgc nv (cgc xk (cgc yc cg0))) cg0
 refine aU [.st .ratio,.o] mixed am hG (fn:=Tryz.f119) (c:=ae Tryz.f119) (by kernel_rfl) (by kernel_rfl) (by kernel_rfl) (by kernel_rfl) (Oa (bb fun a=>(bb fun b=>(aI (fun hp=>?_)))))
 dsimp only[aG]at hp
 unfold iu at hp
 refine⟨Nat.le_of_ble_eq_true rfl,L0,ah _,?_⟩
 ·unfold ae Tryz.f119
  try unfold d8
  simp only[go_sem,Nat.reduceBEq,Nat.reduceLeDiff,Nat.reduceLT,decide_true,Nat.reduceAdd,Nat.reduceSub,Nat.reduceMul,Int.reduceLE,Int.reduceLT,Int.reduceToNat,Int.reduceNeg,reduceCtorEq]
  all_goals exact cl
def dL (a:Ratio)(b:Ratio):Ratio×Int:=(((d8 a b).1),(d8 a b).2)
def nV (a:Ratio)(b:Ratio):Prop:=(iu a b)
@[go_sem] def uY:List SV→Option Con:=(pD .ratio fun a=>(pD .ratio fun b=>(pE (.det (nV a b) (.tup [.agg (cellsOf .ratio ((dL a b).1)),.v (.int .i64 ((dL a b).2))])))))
theorem Al:FnOk Tryz.prog 91 uY:=by
 have hG:ConsOk Tryz.prog (mkG [(119,mf)] []):=ay (cgc pH cg0) cg0
 refine aU [.st .ratio,.o] mixed am hG (fn:=Tryz.f91) (c:=ae Tryz.f91) (by kernel_rfl) (by kernel_rfl) (by kernel_rfl) (by kernel_rfl) (bb fun a=>(bb fun b=>(aI (fun hp=>?_))))
 dsimp only[aG]at hp
 unfold nV at hp
 refine⟨Nat.le_of_ble_eq_true rfl,L0,ah _,?_⟩
 ·unfold ae Tryz.f91
  try unfold dL
  simp only[go_sem,Nat.reduceBEq,Nat.reduceLeDiff,Nat.reduceLT,decide_true,Nat.reduceAdd,Nat.reduceSub,Nat.reduceMul,Int.reduceLE,Int.reduceLT,Int.reduceToNat,Int.reduceNeg,reduceCtorEq]
  all_goals exact cl
end Go.Sx
end
section
namespace Go.Sx
open Go.Proofs
set_option maxRecDepth 100000
set_option linter.unusedSimpArgs false
@[go_sem] def rP (cg:List Int)(k_0:Nat)(s_0:Unit):Int⊕Unit:=(bif((cg.getD k_0 (0:Int)) !=0)then .inl (cg.getD k_0 (0:Int))else .inr ())
def gE (cg:List Int):Int:=(match ak (rP cg) cg.length 0 ()with| .inl x_0_0=>x_0_0| .inr s_0=>0)
@[go_sem] def tl:List SV→Option Con:=(pR .int fun cg=>(pE (.det True (.v (.int .i64 (gE cg))))))
theorem yd:FnOk Tryz.prog 52 tl:=by
 have hG:ConsOk Tryz.prog (mkG [] []):=ay cg0 cg0
 refine aU [.o] mixed am hG (fn:=Tryz.f52) (c:=ae Tryz.f52) (by kernel_rfl) (by kernel_rfl) (by kernel_rfl) (by kernel_rfl) (dw fun cg=>(aI (fun hp=>?_)))
 dsimp only[aG]at hp
 refine⟨Nat.le_of_ble_eq_true rfl,(fun id st=>bif Nat.beq id 0 then some (LCR (ρ:=Int) (σ:=Unit) 0 [] [] (fun k_0 s_0=>⟨[(3,.v (.int .i64 0)),(6,.rs .int cg),(7,.v (.int .i64 (cg.length:Int))),(8,.v (.int .i64 (k_0:Int)))],[]⟩) (rP cg) pT cg.length () (cg.length≤bv) (fun _=>.ret) (fun x_0_0=>⟨[(2,.v (.int .i64 x_0_0))],[]⟩) st)else none),?_,?_⟩
 ·unfold ae Tryz.f52
  simp only[al,true_and,and_true]
  ·refine eh mixed am hG (by kernel_rfl) (fun _=>rfl) (cg.length:Int) rfl gM (fun hb0 k_0 s_0 hlt0 _ hw hc=>⟨L0,ah _,?_⟩) (fun hb0 s_0 hc=>?_)
   ·exact jh
   ·exact ji
 ·unfold ae Tryz.f52
  try unfold gE
  simp only[go_sem,Nat.reduceBEq,Nat.reduceLeDiff,Nat.reduceLT,decide_true,Nat.reduceAdd,Nat.reduceSub,Nat.reduceMul,Int.reduceLE,Int.reduceLT,Int.reduceToNat,Int.reduceNeg,reduceCtorEq]
  all_goals exact cl
def bX (x:Holding)(y:Holding):Int:=(gE ([(dh x.right y.right),(dh x.farm y.farm)]))
@[go_sem] def px:List SV→Option Con:=(pD .holding fun x=>(pD .holding fun y=>(pE (.det True (.v (.int .i64 (bX x y)))))))
theorem uu:FnOk Tryz.prog 51 px:=by
 have hG:ConsOk Tryz.prog (mkG [(38,fA),(52,fun l=>tl (cT [.sl .int] l))] []):=ay (cgc gB (cgc (yd.norm [.sl .int]) cg0)) cg0
 refine aU [.o] mixed am hG (fn:=Tryz.f51) (c:=ae Tryz.f51) (by kernel_rfl) (by kernel_rfl) (by kernel_rfl) (by kernel_rfl) (bb fun x=>(bb fun y=>(aI (fun hp=>?_))))
 dsimp only[aG]at hp
 refine⟨Nat.le_of_ble_eq_true rfl,L0,ah _,?_⟩
 ·unfold ae Tryz.f51
  try unfold bX
  simp only[go_sem,Nat.reduceBEq,Nat.reduceLeDiff,Nat.reduceLT,decide_true,Nat.reduceAdd,Nat.reduceSub,Nat.reduceMul,Int.reduceLE,Int.reduceLT,Int.reduceToNat,Int.reduceNeg,reduceCtorEq]
  all_goals exact cl
end Go.Sx
end
section
namespace Go.Sx
open Go.Proofs
theorem mg (x y:Int):dh x y=if x<y then -1 else if x > y then 1 else 0:=by
 unfold dh gT
 simp[Bool.cond_eq_ite]
theorem DI (x:Int)(l:List Int):gE (x::l)=if x=0 then gE l else x:=by
 have key:∀ l:List Int,gE l=match fN (ρ:=Int) (fun(x:Int) (_:Unit) =>bif(x !=0)then .inl x else .inr ()) l ()with| .inl y=>y| .inr _=>0:=fun l=>by
  unfold gE
  have:=Ac (ρ:=Int) (fun(x:Int) (_:Unit) =>bif(x !=0)then .inl x else .inr ()) 0 l ()
  rw[←this]
  rfl
 rw[key,key]
 simp only[fN]
 by_cases h:x=0
 ·subst h;rfl
 ·have:(x !=0)=true:=by simpa using h
  rw[if_neg h,this];rfl
theorem F_:gE []=0:=rfl
def uv:List (Int×Int)→Prop
 | [] =>False
 |(a,b)::r=>a<b∨a=b∧uv r
theorem y4:∀ l:List (Int×Int),(gE (l.map fun p=>dh p.1 p.2) <0↔uv l)
 | [] =>by simp[F_,uv]
 |(a,b)::r=>by
  have hc:=mg a b
  simp only[List.map_cons,DI,hc,uv]
  rcases Int.lt_trichotomy a b with h|h|h
  ·simp[h]
  ·subst h
   simp only[Int.lt_irrefl,if_false,if_true,true_and,false_or,gt_iff_lt]
   exact y4 r
  ·have h1:¬a<b:=by omega
   have h2:a≠b:=by omega
   simp[h1,h2,h]
def hlt (a b:Holding):Prop:=uv [(a.right,b.right),(a.farm,b.farm)]
theorem xl (a b:Holding):bX a b<0↔hlt a b:=y4 [(a.right,b.right),(a.farm,b.farm)]
open Go.Shelf Go.Sort in
theorem Oc {α:Type}{f:α→α→Int}{r:α→α→Prop}(e:∀ x y,f x y<0↔r x y)(h1:∀ x,¬r x x)(h2:∀ x y z,r x y→r y z→r x z)(h3:∀ x y z,¬r x y→¬r y z→¬r x z):SWO (ltOf f):=by
 have e1:∀ x y,ltOf f x y=true↔r x y:=fun x y=>by unfold ltOf;rw[decide_eq_true_eq,e]
 have e2:∀ x y,ltOf f x y=false↔¬r x y:=fun x y=>by rw[←e1];simp
 exact⟨fun x=>(e2 x x).2 (h1 x),fun x y z a b=>(e1 x z).2 (h2 x y z ((e1 x y).1 a) ((e1 y z).1 b)),fun x y z a b=>(e2 x z).2 (h3 x y z ((e2 x y).1 a) ((e2 y z).1 b))⟩
open Go.Shelf Go.Sort in
theorem uZ:SWO (ltOf bX):=Oc xl (fun x=>by simp only[hlt,uv,and_false,or_false];omega) (fun x y z h1 h2=>by simp only[hlt,uv,and_false,or_false]at *;omega) (fun x y z h1 h2=>by simp only[hlt,uv,and_false,or_false]at *;omega)
end Go.Sx
end
section
namespace Go.Sx
open Go.RowKit
def orC {α:Type 1}:Option α→Option α→Option α
 |some x,_=>some x
 |none,y=>y
@[go_sem] theorem Sr {α:Type 1}{x:α}{y:Option α}:orC (some x) y=some x:=(rfl)
@[go_sem] theorem Ss {α:Type 1}{y:Option α}:orC none y=y:=(rfl)
theorem qR {α:Type 1}{a b:Option α}{c:α}(h:orC a b=some c):a=some c∨b=some c:=by
 cases a with
 |none=>exact .inr h
 |some x=>exact .inl h
theorem FnOkO.or {P:Program}{f:FuncId}{C D:List SV→List Ob→Option HCon}(h1:FnOkO P f C)(h2:FnOkO P f D):FnOkO P f (fun l h=>orC (C l h) (D l h)):=
 ⟨fun l h c hc=>by rcases qR hc with e|e;exact h1.enter l h c e;exact h2.enter l h c e,
  fun l h c hc=>by rcases qR hc with e|e;exact h1.calls l h c e;exact h2.calls l h c e⟩
theorem FnOk.or {P:Program}{f:FuncId}{C D:List SV→Option Con}(h1:FnOk P f C)(h2:FnOk P f D):FnOk P f (fun l=>orC (C l) (D l)):=
 ⟨fun l c hc=>by rcases qR hc with e|e;exact h1.enter l c e;exact h2.enter l c e,
  fun l c hc=>by rcases qR hc with e|e;exact h1.calls l c e;exact h2.calls l c e⟩
end Go.Sx
end
section
namespace Go.Sx
open Go.Proofs
set_option maxRecDepth 100000
set_option linter.unusedSimpArgs false
theorem BL {p:Prop}(h:p:=by(first|done|(repeat' (first|with_reducible refine And.intro ?_ ?_|((with_reducible show _≠_);first|assumption|omega|(simp_all [aX,bu];done) |grind) |with_reducible intro _)) <;>(first|done|with_reducible exact Empty.elim ‹Empty› |with_reducible assumption|rfl|omega|assumption|decide|exact fk [0,1,2] |exact czl|(simp only[*,cond_true,cond_false,Bool.not_true,Bool.not_false,go_sem,Nat.reduceBEq,Nat.reduceLeDiff,Nat.reduceLT,decide_true,Nat.reduceAdd,Nat.reduceSub,Nat.reduceMul,Int.reduceLE,Int.reduceLT,Int.reduceToNat,Int.reduceNeg,reduceCtorEq];(repeat' (first|with_reducible refine And.intro ?_ ?_|((with_reducible show _≠_);first|assumption|omega|(simp_all [aX,bu];done) |grind) |with_reducible intro _)) <;>(first|done|assumption|rfl|omega|decide|exact fk [0,1,2] |(simp_all [aX,bu];done))) |(simp_all [okI,aX,bu];done) |(simp_all [aX,bu];(first|done|exact fk2 [0,1,2])) |exact fk2 [0,1,2]))):p:=h
theorem xm {p:Prop}(h:p:=by(first|done|(repeat' (first|with_reducible refine And.intro ?_ ?_|((with_reducible show _≠_);first|assumption|omega|(simp_all [aX,bu];done) |grind) |with_reducible intro _)) <;>(first|done|with_reducible exact Empty.elim ‹Empty› |with_reducible assumption|rfl|omega|assumption|decide|exact fk [0,1] |exact czl|(simp only[*,cond_true,cond_false,Bool.not_true,Bool.not_false,go_sem,Nat.reduceBEq,Nat.reduceLeDiff,Nat.reduceLT,decide_true,Nat.reduceAdd,Nat.reduceSub,Nat.reduceMul,Int.reduceLE,Int.reduceLT,Int.reduceToNat,Int.reduceNeg,reduceCtorEq];(repeat' (first|with_reducible refine And.intro ?_ ?_|((with_reducible show _≠_);first|assumption|omega|(simp_all [aX,bu];done) |grind) |with_reducible intro _)) <;>(first|done|assumption|rfl|omega|decide|exact fk [0,1] |(simp_all [aX,bu];done))) |(simp_all [okI,aX,bu];done) |(simp_all [aX,bu];(first|done|exact fk2 [0,1])) |exact fk2 [0,1]))):p:=h
theorem BN {p:Prop}(h:p:=by simp only[go_sem,Nat.reduceBEq,Nat.reduceLeDiff,Nat.reduceLT,decide_true,Nat.reduceAdd,Nat.reduceSub,Nat.reduceMul,Int.reduceLE,Int.reduceLT,Int.reduceToNat,Int.reduceNeg,reduceCtorEq,hc,hw];all_goals exact BL):p:=h
theorem BO {p:Prop}(h:p:=by simp only[go_sem,Nat.reduceBEq,Nat.reduceLeDiff,Nat.reduceLT,decide_true,Nat.reduceAdd,Nat.reduceSub,Nat.reduceMul,Int.reduceLE,Int.reduceLT,Int.reduceToNat,Int.reduceNeg,reduceCtorEq,hc];all_goals exact BL):p:=h
theorem qq {p:Prop}(h:p:=by simp only[go_sem,Nat.reduceBEq,Nat.reduceLeDiff,Nat.reduceLT,decide_true,Nat.reduceAdd,Nat.reduceSub,Nat.reduceMul,Int.reduceLE,Int.reduceLT,Int.reduceToNat,Int.reduceNeg,reduceCtorEq,hc,hw];all_goals exact xm):p:=h
theorem qr {p:Prop}(h:p:=by simp only[go_sem,Nat.reduceBEq,Nat.reduceLeDiff,Nat.reduceLT,decide_true,Nat.reduceAdd,Nat.reduceSub,Nat.reduceMul,Int.reduceLE,Int.reduceLT,Int.reduceToNat,Int.reduceNeg,reduceCtorEq,hc];all_goals exact xm):p:=h
def an (n:Int)(lo:Int)(hi:Int):Bool:=((decide (n≥lo))&&(decide (n≤hi)))
@[go_sem] def jo:List SV→Option Con:=(pI fun n=>(pI fun lo=>(pI fun hi=>(pE (.det True (.v (.bool (an n lo hi))))))))
theorem ku:FnOk Tryz.prog 47 jo:=by
 have hG:ConsOk Tryz.prog (mkG [] []):=ay cg0 cg0
 refine aU [.o] mixed am hG (fn:=Tryz.f47) (c:=ae Tryz.f47) (by kernel_rfl) (by kernel_rfl) (by kernel_rfl) (by kernel_rfl) (co fun n=>(co fun lo=>(co fun hi=>(aI (fun hp=>?_)))))
 dsimp only[aG]at hp
 refine⟨Nat.le_of_ble_eq_true rfl,L0,ah _,?_⟩
 ·unfold ae Tryz.f47
  try unfold an
  simp only[go_sem,Nat.reduceBEq,Nat.reduceLeDiff,Nat.reduceLT,decide_true,Nat.reduceAdd,Nat.reduceSub,Nat.reduceMul,Int.reduceLE,Int.reduceLT,Int.reduceToNat,Int.reduceNeg,reduceCtorEq]
  all_goals exact cl
def gW (x:Deed):Bool:=(bif(x.kind==1)then(((x.parts.length:Int) ==0)&&(x.of_==0))else(bif(x.kind==2)then((x.to==0)&&(x.of_==0))else(bif(x.kind==3)then(((x.to==0)&&((x.parts.length:Int) ==0))&&(x.of_==0))else(bif(x.kind==4)then((((x.right==0)&&(x.since==0))&&(x.to==0))&&((x.parts.length:Int) ==0))else(((((x.right==0)&&(x.since==0))&&(x.to==0))&&((x.parts.length:Int) ==0))&&(x.of_==0))))))
@[go_sem] def py:List SV→Option Con:=(pD .deed fun x=>(pE (.det True (.v (.bool (gW x))))))
theorem uw:FnOk Tryz.prog 66 py:=by
 have hG:ConsOk Tryz.prog (mkG [] []):=ay cg0 cg0
 refine aU [.o] mixed am hG (fn:=Tryz.f66) (c:=ae Tryz.f66) (by kernel_rfl) (by kernel_rfl) (by kernel_rfl) (by kernel_rfl) (bb fun x=>(aI (fun hp=>?_)))
 dsimp only[aG]at hp
 refine⟨Nat.le_of_ble_eq_true rfl,L0,ah _,?_⟩
 ·unfold ae Tryz.f66
  try unfold gW
  simp only[go_sem,Nat.reduceBEq,Nat.reduceLeDiff,Nat.reduceLT,decide_true,Nat.reduceAdd,Nat.reduceSub,Nat.reduceMul,Int.reduceLE,Int.reduceLT,Int.reduceToNat,Int.reduceNeg,reduceCtorEq]
  all_goals exact cl
@[go_sem] def dU (d:District)(l_:List Part)(k_0:Nat)(s_0:Int×Int×List (Int×Bool)):Unit⊕(Int×Int×List (Int×Bool)):=(bif(((!(an ((l_.getD k_0 (default:Part)).farm) 0 (IntKind.i64.wrap ((d.farms.length:Int) - 1)))) ||(dz .int .bool s_0.2.2 ((l_.getD k_0 (default:Part)).farm))) ||(decide ((l_.getD k_0 (default:Part)).share.n≤0)))then .inl ()else(bif((dL ({ n:=s_0.1,d:=s_0.2.1}:Ratio) ((l_.getD k_0 (default:Part)).share)).2 !=0)then .inl ()else .inr (((dL ({ n:=s_0.1,d:=s_0.2.1}:Ratio) ((l_.getD k_0 (default:Part)).share)).1).n,((dL ({ n:=s_0.1,d:=s_0.2.1}:Ratio) ((l_.getD k_0 (default:Part)).share)).1).d,(fL .int .bool s_0.2.2 ((l_.getD k_0 (default:Part)).farm) true))))
def iY (d:District)(l_:List Part)(k_0:Nat)(s_0:Int×Int×List (Int×Bool)):Prop:=(d.farms.length≤bv→((((!(an ((l_.getD k_0 (default:Part)).farm) 0 (IntKind.i64.wrap ((d.farms.length:Int) - 1)))) ||(dz .int .bool s_0.2.2 ((l_.getD k_0 (default:Part)).farm))) ||(decide ((l_.getD k_0 (default:Part)).share.n≤0)))=false→(nV ({ n:=s_0.1,d:=s_0.2.1}:Ratio) ((l_.getD k_0 (default:Part)).share))))
def fg (d:District)(l_:List Part):Bool:=(match ak (dU d l_) l_.length 0 (0,1,[])with| .inl x_0_0=>false| .inr s_0=>((an (l_.length:Int) 1 16)&&((s_0.1==1)&&(s_0.2.1==1))))
def iN (d:District)(l_:List Part):Prop:=(l_.length≤bv→okI (dU d l_) (iY d l_) l_.length 0 (0,1,[]))
@[go_sem] def oG:List SV→Option Con:=(pD .district fun d=>(pR .part fun l_=>(pE (.det (iN d l_) (.v (.bool (fg d l_)))))))
theorem tn:FnOk Tryz.prog 67 oG:=by
 have hG:ConsOk Tryz.prog (mkG [(47,jo),(91,uY)] []):=ay (cgc ku (cgc Al cg0)) cg0
 refine aU [.o] mixed am hG (fn:=Tryz.f67) (c:=ae Tryz.f67) (by kernel_rfl) (by kernel_rfl) (by kernel_rfl) (by kernel_rfl) (bb fun d=>(dw fun l_=>(aI (fun hp=>?_))))
 dsimp only[aG]at hp
 unfold iN at hp
 refine⟨Nat.le_of_ble_eq_true rfl,(fun id st=>bif Nat.beq id 0 then some (LCR (ρ:=Unit) (σ:=(Int×Int×List (Int×Bool))) 3 [] [0,1,2] (fun k_0 s_0=>⟨[(1,.rs .part l_),(2,.ptr 0 0),(5,.ptr 2 0),(6,.os 1),(13,.rs .part l_),(14,.v (.int .i64 (l_.length:Int))),(15,.v (.int .i64 (k_0:Int)))],[.cells (cellsOf .district d),.mp .int .bool s_0.2.2 none,.cells [.v (.int .i64 s_0.1),.v (.int .i64 s_0.2.1)]]⟩) (dU d l_) (iY d l_) l_.length (0,1,[]) (l_.length≤bv) (fun _=>.ret) (fun x_0_0=>⟨[(4,.v (.bool false))],[.dead,.dead,.dead]⟩) st)else none),?_,?_⟩
 ·unfold ae Tryz.f67
  simp only[al,true_and,and_true]
  ·refine eh mixed am hG (by kernel_rfl) (fun _=>rfl) (l_.length:Int) rfl gM (fun hb0 k_0 s_0 hlt0 hq0 hw hc=>⟨L0,ah _,?_⟩) (fun hb0 s_0 hc=>?_)
   ·unfold iY at hq0
    try simp only[hw,Int.toNat_natCast]at hq0
    exact BN
   ·exact BO
 ·unfold ae Tryz.f67
  try unfold fg
  simp only[go_sem,Nat.reduceBEq,Nat.reduceLeDiff,Nat.reduceLT,decide_true,Nat.reduceAdd,Nat.reduceSub,Nat.reduceMul,Int.reduceLE,Int.reduceLT,Int.reduceToNat,Int.reduceNeg,reduceCtorEq]
  all_goals exact cl
def ca (a0:District)(a1:List (Int×Deed))(a2:Deed):Bool:=(bif((((!(an a2.no 0 1048576)) ||(!(an a2.at_ 0 4096))) ||(!(an a2.known 0 1048576))) ||(!(gW a2)))then false else(bif(a2.kind==1)then(((((an a2.right 0 (IntKind.i64.wrap ((a0.rights.length:Int) - 1)))&&((a0.rights.getD (Int.toNat a2.right) (default:Right)).kind==1))&&(an a2.since 0 (IntKind.i64.wrap ((a0.farms.length:Int) - 1))))&&(an a2.to 0 (IntKind.i64.wrap ((a0.farms.length:Int) - 1))))&&(a2.to !=a2.since))else(bif(a2.kind==2)then((((an a2.right 0 (IntKind.i64.wrap ((a0.rights.length:Int) - 1)))&&((a0.rights.getD (Int.toNat a2.right) (default:Right)).kind==1))&&(an a2.since 0 (IntKind.i64.wrap ((a0.farms.length:Int) - 1))))&&(fg a0 a2.parts))else(bif(a2.kind==3)then(((an a2.right 0 (IntKind.i64.wrap ((a0.rights.length:Int) - 1)))&&((a0.rights.getD (Int.toNat a2.right) (default:Right)).kind==1))&&(an a2.since 0 (IntKind.i64.wrap ((a0.farms.length:Int) - 1))))else(bif(a2.kind==4)then(((pO .int .deed a1 a2.of_)&&((dz .int .deed a1 a2.of_).kind !=4))&&(decide (a2.known≥(dz .int .deed a1 a2.of_).known)))else false)))))
def jD (a0:District)(a1:List (Int×Deed))(a2:Deed):Prop:=(((((!(an a2.no 0 1048576)) ||(!(an a2.at_ 0 4096))) ||(!(an a2.known 0 1048576))) ||(!(gW a2)))=false→(a0.farms.length≤bv→(a0.rights.length≤bv→(((an a2.right 0 (IntKind.i64.wrap ((a0.rights.length:Int) - 1)))=true→(0≤a2.right∧a2.right< (a0.rights.length:Int)))∧((a2.kind==1)=false→((a2.kind==2)=true→((((an a2.right 0 (IntKind.i64.wrap ((a0.rights.length:Int) - 1)))&&((a0.rights.getD (Int.toNat a2.right) (default:Right)).kind==1))&&(an a2.since 0 (IntKind.i64.wrap ((a0.farms.length:Int) - 1))))=true→(iN a0 a2.parts))))))))
@[go_sem] def pz:List SV→Option Con:=(pD .district fun a0=>(pM .int .deed fun a1=>(pD .deed fun a2=>(pE (.det (jD a0 a1 a2) (.v (.bool (ca a0 a1 a2))))))))
theorem uz:FnOk Tryz.prog 43 pz:=by
 have hG:ConsOk Tryz.prog (mkG [(47,jo),(66,fun l=>py (cT [.st .deed] l)),(67,fun l=>oG (cT [.st .district,.sl .part] l))] []):=ay (cgc ku (cgc (uw.norm [.st .deed]) (cgc (tn.norm [.st .district,.sl .part]) cg0))) cg0
 refine aU [.o] mixed am hG (fn:=Tryz.f43) (c:=ae Tryz.f43) (by kernel_rfl) (by kernel_rfl) (by kernel_rfl) (by kernel_rfl) (bb fun a0=>(N8 fun a1=>(bb fun a2=>(aI (fun hp=>?_)))))
 dsimp only[aG]at hp
 unfold jD at hp
 refine⟨Nat.le_of_ble_eq_true rfl,L0,ah _,?_⟩
 ·unfold ae Tryz.f43
  try unfold ca
  simp only[go_sem,Nat.reduceBEq,Nat.reduceLeDiff,Nat.reduceLT,decide_true,Nat.reduceAdd,Nat.reduceSub,Nat.reduceMul,Int.reduceLE,Int.reduceLT,Int.reduceToNat,Int.reduceNeg,reduceCtorEq]
  all_goals exact cl
def cU (x:Deed):Bool:=(decide ((x.parts.length:Int) > 16))
@[go_sem] def nz:List SV→Option Con:=(pD .deed fun x=>(pE (.det True (.v (.bool (cU x))))))
theorem re:FnOk Tryz.prog 42 nz:=by
 have hG:ConsOk Tryz.prog (mkG [] []):=ay cg0 cg0
 refine aU [.o] mixed am hG (fn:=Tryz.f42) (c:=ae Tryz.f42) (by kernel_rfl) (by kernel_rfl) (by kernel_rfl) (by kernel_rfl) (bb fun x=>(aI (fun hp=>?_)))
 dsimp only[aG]at hp
 refine⟨Nat.le_of_ble_eq_true rfl,L0,ah _,?_⟩
 ·unfold ae Tryz.f42
  try unfold cU
  simp only[go_sem,Nat.reduceBEq,Nat.reduceLeDiff,Nat.reduceLT,decide_true,Nat.reduceAdd,Nat.reduceSub,Nat.reduceMul,Int.reduceLE,Int.reduceLT,Int.reduceToNat,Int.reduceNeg,reduceCtorEq]
  all_goals exact cl
@[go_sem] def bV (s_:List Deed)(k_0:Nat)(s_0:Unit):Int⊕Unit:=(bif(cU (s_.getD k_0 (default:Deed)))then .inl (k_0:Int)else .inr ())
def cK (s_:List Deed):Int:=(match ak (bV s_) s_.length 0 ()with| .inl x_0_0=>x_0_0| .inr s_0=>(-1))
@[go_sem] def dx:List SV→Option Con:=(pR .deed fun s_=>(pFn 42 (pE ((pE (.det True (.v (.int .i64 (cK s_)))))))))
theorem eA:FnOk Tryz.prog 65 dx:=by
 have hG:ConsOk Tryz.prog (mkG [(42,fun l=>nz (cT [.st .deed] l))] []):=ay (cgc (re.norm [.st .deed]) cg0) cg0
 refine aU [.o] mixed am hG (fn:=Tryz.f65) (c:=ae Tryz.f65) (by kernel_rfl) (by kernel_rfl) (by kernel_rfl) (by kernel_rfl) (dw fun s_=>(ta (aI ((aI (fun hp=>?_))))))
 dsimp only[aG]at hp
 refine⟨Nat.le_of_ble_eq_true rfl,(fun id st=>bif Nat.beq id 0 then some (LCR (ρ:=Int) (σ:=Unit) 0 [] [] (fun k_0 s_0=>⟨[(0,.rs .deed s_),(1,.fn 42 [] []),(7,.v (.int .i64 (s_.length:Int))),(8,.v (.int .i64 (k_0:Int)))],[]⟩) (bV s_) pT s_.length () (s_.length≤bv) (fun _=>.ret) (fun x_0_0=>⟨[(4,.v (.int .i64 x_0_0))],[]⟩) st)else none),?_,?_⟩
 ·unfold ae Tryz.f65
  simp only[al,true_and,and_true]
  ·refine eh mixed am hG (by kernel_rfl) (fun _=>rfl) (s_.length:Int) rfl gM (fun hb0 k_0 s_0 hlt0 _ hw hc=>⟨L0,ah _,?_⟩) (fun hb0 s_0 hc=>?_)
   ·exact jh
   ·exact ji
 ·unfold ae Tryz.f65
  try unfold cK
  simp only[go_sem,Nat.reduceBEq,Nat.reduceLeDiff,Nat.reduceLT,decide_true,Nat.reduceAdd,Nat.reduceSub,Nat.reduceMul,Int.reduceLE,Int.reduceLT,Int.reduceToNat,Int.reduceNeg,reduceCtorEq]
  all_goals exact cl
@[go_sem] noncomputable def dl:List SV→Option Con:=fun l=>(dx l)
theorem iv:FnOk Tryz.prog 65 dl:=eA
def aA (s_:List Deed):Bool:=(decide ((cK s_)≥0))
@[go_sem] def d_:List SV→Option Con:=(pR .deed fun s_=>(pFn 42 (pE ((pE (.det True (.v (.bool (aA s_)))))))))
theorem g5:FnOk Tryz.prog 41 d_:=by
 have hG:ConsOk Tryz.prog (mkG [(65,fun l=>dl (cT [.sl .deed,.o] l))] []):=ay (cgc (iv.norm [.sl .deed,.o]) cg0) cg0
 refine aU [.o] mixed am hG (fn:=Tryz.f41) (c:=ae Tryz.f41) (by kernel_rfl) (by kernel_rfl) (by kernel_rfl) (by kernel_rfl) (dw fun s_=>(ta (aI ((aI (fun hp=>?_))))))
 dsimp only[aG]at hp
 refine⟨Nat.le_of_ble_eq_true rfl,L0,ah _,?_⟩
 ·unfold ae Tryz.f41
  try unfold aA
  simp only[go_sem,Nat.reduceBEq,Nat.reduceLeDiff,Nat.reduceLT,decide_true,Nat.reduceAdd,Nat.reduceSub,Nat.reduceMul,Int.reduceLE,Int.reduceLT,Int.reduceToNat,Int.reduceNeg,reduceCtorEq,dl]
  all_goals exact cl
@[go_sem] def c8 (d:District)(l_:List Deed)(k_0:Nat)(s_0:List (Int×Deed)):Unit⊕(List (Int×Deed)):=(bif(((decide ((k_0:Int) > 0))&&(decide ((l_.getD k_0 (default:Deed)).no≤(l_.getD (Int.toNat (IntKind.i64.wrap ((k_0:Int) - 1))) (default:Deed)).no))) ||(!(ca d s_0 (l_.getD k_0 (default:Deed)))))then .inl ()else .inr (fL .int .deed s_0 ((l_.getD k_0 (default:Deed)).no) (l_.getD k_0 (default:Deed))))
def iZ (d:District)(l_:List Deed)(k_0:Nat)(s_0:List (Int×Deed)):Prop:=(((decide ((k_0:Int) > 0))=true→(0≤(IntKind.i64.wrap ((k_0:Int) - 1))∧(IntKind.i64.wrap ((k_0:Int) - 1)) < (l_.length:Int)))∧(((decide ((k_0:Int) > 0))&&(decide ((l_.getD k_0 (default:Deed)).no≤(l_.getD (Int.toNat (IntKind.i64.wrap ((k_0:Int) - 1))) (default:Deed)).no)))=false→(jD d s_0 (l_.getD k_0 (default:Deed)))))
def aq (d:District)(l_:List Deed):Int:=(bif((aV d) !=0)then(aV d)else(bif((decide ((l_.length:Int) > 512)) ||(aA l_))then 2 else(match ak (c8 d l_) l_.length 0 ([])with| .inl x_0_0=>250| .inr s_0=>0)))
def dM (d:District)(l_:List Deed):Prop:=(((aV d) !=0)=false→(l_.length≤bv→(((decide ((l_.length:Int) > 512)) ||(aA l_))=false→(l_.length≤bv→okI (c8 d l_) (iZ d l_) l_.length 0 ([])))))
@[go_sem] def fV:List SV→Option Con:=(pD .district fun d=>(pR .deed fun l_=>(pE (.det (dM d l_) (.v (.int .i64 (aq d l_)))))))
theorem g_:FnOk Tryz.prog 15 fV:=by
 have hG:ConsOk Tryz.prog (mkG [(24,fun l=>qn (cT [.st .district] l)),(41,fun l=>d_ (cT [.sl .deed,.o] l)),(43,fun l=>pz (cT [.st .district,.mp .int .deed,.st .deed] l))] []):=ay (cgc (vv.norm [.st .district]) (cgc (g5.norm [.sl .deed,.o]) (cgc (uz.norm [.st .district,.mp .int .deed,.st .deed]) cg0))) cg0
 refine aU [.o] mixed am hG (fn:=Tryz.f15) (c:=ae Tryz.f15) (by kernel_rfl) (by kernel_rfl) (by kernel_rfl) (by kernel_rfl) (bb fun d=>(dw fun l_=>(aI (fun hp=>?_))))
 dsimp only[aG]at hp
 unfold dM at hp
 refine⟨Nat.le_of_ble_eq_true rfl,(fun id st=>bif Nat.beq id 0 then some (LCR (ρ:=Unit) (σ:=(List (Int×Deed))) 2 [] [0,1] (fun k_0 s_0=>⟨[(1,.rs .deed l_),(2,.ptr 0 0),(5,.os 1),(21,.rs .deed l_),(22,.v (.int .i64 (l_.length:Int))),(23,.v (.int .i64 (k_0:Int)))],[.cells (cellsOf .district d),.mp .int .deed s_0 none]⟩) (c8 d l_) (iZ d l_) l_.length ([]) (l_.length≤bv) (fun _=>.ret) (fun x_0_0=>⟨[(4,.v (.int .i64 250))],[.dead,.dead]⟩) st)else none),?_,?_⟩
 ·unfold ae Tryz.f15
  simp only[al,true_and,and_true]
  ·refine eh mixed am hG (by kernel_rfl) (fun _=>rfl) (l_.length:Int) rfl gM (fun hb0 k_0 s_0 hlt0 hq0 hw hc=>⟨L0,ah _,?_⟩) (fun hb0 s_0 hc=>?_)
   ·unfold iZ at hq0
    try simp only[hw,Int.toNat_natCast]at hq0
    exact qq
   ·exact qr
 ·unfold ae Tryz.f15
  try unfold aq
  simp only[go_sem,Nat.reduceBEq,Nat.reduceLeDiff,Nat.reduceLT,decide_true,Nat.reduceAdd,Nat.reduceSub,Nat.reduceMul,Int.reduceLE,Int.reduceLT,Int.reduceToNat,Int.reduceNeg,reduceCtorEq]
  all_goals exact cl
end Go.Sx
end
section
namespace Go.Sx
open Go.RowKit
def pXM {α:Type 1}(t t2:Tag)(k:List (t.T×t2.T)→List SV→Option α):List SV→Option α
 | .ep [s] 0::r=>pM t t2 k (s::r)
 |_=>none
@[go_sem] theorem Su {α:Type 1}{t t2:Tag}{k:List (t.T×t2.T)→List SV→Option α}{s:SV}{r:List SV}:pXM t t2 k (.ep [s] 0::r)=pM t t2 k (s::r):=(rfl)
theorem ET {α:Type 1}{G:List SV→α→Prop}{t t2:Tag}{k:List (t.T×t2.T)→List SV→Option α}(h:∀ n l c,k n l=some c→G (.ep [.rm t t2 n] 0::l) c):∀ l c,pXM t t2 k l=some c→G l c:=fun l c hc=>by
 unfold pXM at hc
 split at hc
 ·obtain⟨x,r,e,h1⟩:=HK hc
  simp only[List.cons.injEq]at e
  obtain⟨rfl,rfl⟩:=e
  exact h x _ c h1
 ·cases hc
section
universe u
variable {α:Type u}{G:List SV→α→Prop}
def pLS (k:List SV→Option (List SV→Option α)):List SV→Option α
 | .ls l::r=>apO (k l) r
 |_=>none
@[go_sem] theorem U8 {k:List SV→Option (List SV→Option α)}{l r:List SV}:pLS k (.ls l::r)=apO (k l) r:=(rfl)
end
end Go.Sx
end
section
namespace Go.Sx
open Go.RowKit
open Classical in
noncomputable def gF {τ:Type}(A:τ→List SV)(H:τ→List Ob)(K:τ→HCon):List SV→List Ob→Option HCon:=fun l h=>if e:∃ x,l=A x∧h=H x then some (K e.choose)else none
theorem If (x:Deed):(⟨x.no,x.kind,x.right,x.since,x.to,x.parts,x.of_,x.at_,x.known⟩:Deed)=x:=rfl
theorem Am (d:District):(⟨d.name,d.hours,⟨d.tank.cap,d.tank.start⟩,d.reaches,d.farms,d.crops,d.rights,d.duties,d.wells⟩:District)=d:=rfl
theorem Ga {k:Tag}{x y:k.T}:cellsOf k x=cellsOf k y↔x=y:=⟨fun h=>by
 have h1:=qJ x
 rw[h,qJ y]at h1
 exact(Option.some.inj h1).symm,fun h=>by rw[h]⟩
theorem eB {τ:Type}{A:τ→List SV}{H:τ→List Ob}{K:τ→HCon}{x:τ}(inj:∀ x y,A x=A y→H x=H y→x=y:=by
 intro x y h1 h2
 simp only[List.cons.injEq,SV.agg.injEq,SV.ep.injEq,SV.v.injEq,Value.int.injEq,Value.bool.injEq,Value.string.injEq,SV.fn.injEq,SV.rs.injEq,SV.rm.injEq,Ob.row.injEq,Ob.mp.injEq,Ob.cells.injEq,Ob.grid.injEq,heq_eq_eq,Ga,true_and,and_true]at h1 h2
 first|exact h2|exact h1|(simp_all [Prod.ext_iff];done)):gF A H K (A x) (H x)=some (K x):=by
 have e:∃ y,A x=A y∧H x=H y:=⟨x,rfl,rfl⟩
 unfold gF
 rw[dif_pos e]
 have:=inj _ _ e.choose_spec.1 e.choose_spec.2
 rw[←this]
theorem dy {τ:Type}{A:τ→List SV}{H:τ→List Ob}{K:τ→HCon}{l:List SV}{h:List Ob}{c:HCon}(hh:gF A H K l h=some c):∃ x,l=A x∧h=H x∧c=K x:=by
 unfold gF at hh
 split at hh
 ·rename_i e
  simp only[Option.some.injEq]at hh
  exact⟨e.choose,e.choose_spec.1,e.choose_spec.2,hh.symm⟩
 ·cases hh
end Go.Sx
end
section
namespace Go.Sx
open Go.RowKit
def Gb (k:Tag)(i:Nat)(t:List (Nat×SV))(h:List Ob):SV→St
 | .v (.slice none 0 0) =>⟨(i,.os h.length)::t,h++[.row k []]⟩
 |_=>⟨t,h⟩
def Ig (k:Tag)(id off:Nat)(t:List (Nat×SV))(h:List Ob)(l:List SV):Option SV→St
 |some (.v (.slice none 0 0)) =>⟨t,bF h id (.cells (l.set off (.os h.length)))++[.row k []]⟩
 |_=>⟨t,h⟩
def Lc (k:Tag)(id off:Nat)(t:List (Nat×SV))(h:List Ob):Ob→St
 | .cells l=>Ig k id off t h l (nth l off)
 |_=>⟨t,h⟩
def Ih (k:Tag)(t:List (Nat×SV))(h:List Ob):SV→St
 | .ptr id off=>Lc k id off t h (ag h id)
 |_=>⟨t,h⟩
def BP (k:Tag):ResultVar→List (Nat×SV)→List Ob→St
 | .tmp i,t,h=>Gb k i t h (lk i t)
 | .cell i _,t,h=>Ih k t h (lk i t)
def xn:List (ResultVar×Tag)→St→St
 | [],st=>st
 |x::r,st=>xn r (BP x.2 x.1 st.t st.h)
theorem Ld (k:Tag)(r:ResultVar)(st:St):NilS st (BP k r st.t st.h):=by
 obtain⟨t,h⟩:=st
 cases r with
 |tmp i=>
  show NilS _ (Gb k i t h (lk i t))
  unfold Gb
  split
  ·rename_i e
   exact .slot _ (.refl _) e (.inl ⟨_,rfl⟩)
  ·exact .refl _
 |cell i _=>
  show NilS _ (Ih k t h (lk i t))
  unfold Ih
  split
  ·unfold Lc
   split
   ·rename_i e
    unfold Ig
    split
    ·rename_i e2
     exact .cell _ (.refl _) e (by rw[←d4];exact e2) (.inl ⟨_,rfl⟩)
    ·exact .refl _
   ·exact .refl _
  ·exact .refl _
theorem NilS.trans {a b c:St}(h1:NilS a b)(h2:NilS b c):NilS a c:=by
 induction h2 with
 |refl=>exact h1
 |cell o _ e1 e2 ho ih=>exact .cell o ih e1 e2 ho
 |slot o _ e1 ho ih=>exact .slot o ih e1 ho
 |slotE k _ e1 ih=>exact .slotE k ih e1
theorem Od (l:List (ResultVar×Tag)):∀ st,NilS st (xn l st):=by
 induction l with
 |nil=>exact fun st=>.refl _
 |cons x r ih=>exact fun st=>(Ld x.2 x.1 st).trans (ih _)
def EU (l:List (ResultVar×Tag))(rs:List ResultVar)(ts:Tis)(post:SV→Prop)(pp:Value→Prop):Ex→St→Prop
 | .exit _,_=>False
 | .normal,st=>dv post (r6 true rs ts (xn l st))
 | .ret,st=>dv post (r6 true rs ts (xn l st))
 | .pan x,_=>pp x
section
variable {l:List (ResultVar×Tag)}{rs:List ResultVar}{ts:Tis}{post:SV→Prop}{pp:Value→Prop}{st:St}{k:Tag}{i id off:Nat}{t:List (Nat×SV)}{h:List Ob}{m:List SV}
@[go_sem] theorem QB:EU l rs ts post pp .ret st=dv post (r6 true rs ts (xn l st)):=(rfl)
@[go_sem] theorem Le:EU l rs ts post pp .normal st=dv post (r6 true rs ts (xn l st)):=(rfl)
@[go_sem] theorem QC {x:Value}:EU l rs ts post pp (.pan x) st=pp x:=(rfl)
@[go_sem] theorem Sv:xn [] st=st:=(rfl)
@[go_sem] theorem QD {r:ResultVar}:xn ((r,k)::l) ⟨t,h⟩=xn l (BP k r t h):=(rfl)
@[go_sem] theorem QE:BP k (.tmp i) t h=Gb k i t h (lk i t):=(rfl)
@[go_sem] theorem Oe {ty:TypeId}:BP k (.cell i ty) t h=Ih k t h (lk i t):=(rfl)
@[go_sem] theorem Sw:Gb k i t h (.v (.slice none 0 0))=⟨(i,.os h.length)::t,h++[.row k []]⟩:=(rfl)
@[go_sem] theorem Ue:Gb k i t h (.os id)=⟨t,h⟩:=(rfl)
@[go_sem] theorem Sy:Ih k t h (.ptr id off)=Lc k id off t h (ag h id):=(rfl)
@[go_sem] theorem Of:Lc k id off t h (.cells m)=Ig k id off t h m (nth m off):=(rfl)
@[go_sem] theorem Sz:Ig k id off t h m (some (.v (.slice none 0 0)))=⟨t,bF h id (.cells (m.set off (.os h.length)))++[.row k []]⟩:=(rfl)
@[go_sem] theorem Uf:Ig k id off t h m (some (.os i))=⟨t,h⟩:=(rfl)
attribute [go_sem] List.set_cons_zero
end
section
variable {P:Program}{ts:Tis}{G:Cons}
theorem n_ (l:List (ResultVar×Tag)) (hm:P.follows .mixedOrders=true) (hts:ts.ok P) (hG:ConsOk P G) {f:FuncId} {fn:Func} {c:Code} (hf:P.funcs[f]? =some fn) (hb:fn.body=some c) (hname:(fn.name== "runtime.NumGoroutine")=false)
  (hc:ct fn.ntmps c=true) {C:List SV→Option Con}
  (h:∀ l0 con,C l0=some con→aG con→l0.length≤fn.ntmps∧∃ L,al P none fn.ntmps L c∧exec ts G L c ⟨j8 0 l0,[]⟩ (EU l fn.results.toList ts (cX con) (jI con))):FnOk P f C:=by
 refine⟨fun l con _ args w=>?_,fun l0 con hcon hpre F w vs hF hvs=>?_⟩
 ·have hn:¬fn.name= "runtime.NumGoroutine":=by simpa using hname
  simp[callFunc,hf,hn,hb]
 ·obtain⟨hlen,L,hl,hx⟩:=h l0 con hcon hpre
  refine nq (n:=0) (callsIn_of_wp_marks hf hb trivial ?_)
  have hr:StRel F { w:=w,own:=cw} fn.ntmps cw ⟨j8 0 l0,[]⟩ { tmps:=vs++Array.replicate (fn.ntmps - vs.size) undef,defers:=[]} w:=
   ⟨by have:=hvs.1;simp;omega,Dfr.nil,s5 hF,Fr.refl _,fun t=>l7 hvs _ t⟩
  refine wpIn_mono (mN hm hts hG c hc hl F _ _ hx cw _ w hr) ?_
  intro e a' w' hq
  have key:∀ F1 own st,(∀ b,F b→F1 b)→StRel F1 { w:=w,own:=cw} fn.ntmps own st a' w'→dv (cX con) (r6 true fn.results.toList ts (xn l st))→LeavesInM (rd none) 0 P fn a'.tmps
    (fun e w'=>(∃ s u own',cX con s∧e=.returned u∧Handed F w own' w' s u∧Below w.heap.size w w')∨(∃ x,jI con x∧e=.panicked [{ v:=x,recovered:=false}]∧Below w.heap.size w w')) a'.defers .returning w':=by
   intro F1 own0' st0 hF1 hst0 hdone
   obtain⟨own,hst⟩:=(Od l st0).rel hst0
   generalize xn l st0=st at hst hdone
   refine jg hst (by simp) fun w2 hst2=>?_
   have hst3:=hst2.less hF1 rfl
   unfold r6 at hdone
   cases hs:kK (jG ts st fn.results.toList)with
   |none=>
    simp only[cond_true,Fl]at hdone;rw[hs]at hdone;exact hdone.elim
   |some s=>
    obtain⟨u,e1,e2⟩:=s4 (P:=P) hts hst3 hs
    refine⟨u,e1,.inl ?_⟩
    simp only[cond_true,Fl]at hdone
    rw[hs]at hdone
    change dv (cX con) (uL st.h s)at hdone
    cases hg:uL st.h s with
    |none=>rw[hg]at hdone;exact hdone.elim
    |some s2=>
     rw[hg]at hdone
     obtain⟨own',hh⟩:=EC hst3 e2 hg
     exact⟨_,u,own',hdone,rfl,hh,l6 hst3.fr⟩
  cases e with
  |normal=>obtain⟨F1,own,st,h0,h1,h2⟩:=hq;exact key F1 own st h0 h1 h2
  |ret=>obtain⟨F1,own,st,h0,h1,h2⟩:=hq;exact key F1 own st h0 h1 h2
  |exit id=>obtain⟨F1,own,st,h0,h1,h2⟩:=hq;exact h2.elim
  |panic ch=>
   obtain⟨x,F1,own,st,h0,h1,h2,rfl⟩:=hq
   exact jg h1 (by simp) fun w2 hst2=>.inr ⟨x,h2,rfl,l6 hst2.fr⟩
  |_=>exact hq.elim
end
end Go.Sx
end
section
namespace Go.Sx
open Go.Proofs
set_option maxRecDepth 100000
set_option linter.unusedSimpArgs false
theorem Ii {p:Prop}(h:p:=by(first|done|(repeat' (first|with_reducible refine And.intro ?_ ?_|((with_reducible show _≠_);first|assumption|omega|(simp_all [aX,bu];done) |grind) |with_reducible intro _)) <;>(first|done|with_reducible exact Empty.elim ‹Empty› |with_reducible assumption|rfl|omega|assumption|decide|exact fk [0,1,0] |exact fk [0,1,2] |exact czl|(simp only[*,cond_true,cond_false,Bool.not_true,Bool.not_false,go_sem,Nat.reduceBEq,Nat.reduceLeDiff,Nat.reduceLT,decide_true,Nat.reduceAdd,Nat.reduceSub,Nat.reduceMul,Int.reduceLE,Int.reduceLT,Int.reduceToNat,Int.reduceNeg,reduceCtorEq];(repeat' (first|with_reducible refine And.intro ?_ ?_|((with_reducible show _≠_);first|assumption|omega|(simp_all [aX,bu];done) |grind) |with_reducible intro _)) <;>(first|done|assumption|rfl|omega|decide|exact fk [0,1,0] |exact fk [0,1,2] |(simp_all [aX,bu];done))) |(simp_all [okI,aX,bu];done) |(simp_all [aX,bu];(first|done|exact fk2 [0,1,0] |exact fk2 [0,1,2])) |exact fk2 [0,1,0] |exact fk2 [0,1,2]))):p:=h
@[go_sem] def i0:List SV→Option Con:=pR .deed fun l=>pE (.det (l.length*88≤gJ) (.nw .deed l))
theorem mh:FnOk Tryz.prog 40 i0:=by
 have hG:ConsOk Tryz.prog (mkG [] []):=ay cg0 cg0
 refine n_ [(.tmp 2,.deed)] mixed am hG (fn:=Tryz.f40) (c:=ae Tryz.f40) (by kernel_rfl) (by kernel_rfl) (by kernel_rfl) (by kernel_rfl) (dw fun l=>aI fun hp=>?_)
 dsimp only[aG]at hp
 refine⟨Nat.le_of_ble_eq_true rfl,L0,ah _,?_⟩
 unfold ae Tryz.f40
 simp only[go_sem,Nat.reduceBEq,Nat.reduceLeDiff,Nat.reduceAdd,Nat.reduceSub,Nat.reduceMul,Int.reduceLE,Int.reduceLT,Int.reduceToNat,Int.reduceNeg,reduceCtorEq]
 intro b hb
 refine⟨fun h=>?_,fun _=>⟨hp,fun _=>rfl⟩⟩
 have hl:=hb h
 subst hl
 rfl
def eo (z:Deed)(no:Int):Int:=(dh z.no no)
@[go_sem] def oH:List SV→Option Con:=(pD .deed fun z=>(pI fun no=>(pE (.det True (.v (.int .i64 (eo z no)))))))
theorem tq:FnOk Tryz.prog 37 oH:=by
 have hG:ConsOk Tryz.prog (mkG [(38,fA)] []):=ay (cgc gB cg0) cg0
 refine aU [.o] mixed am hG (fn:=Tryz.f37) (c:=ae Tryz.f37) (by kernel_rfl) (by kernel_rfl) (by kernel_rfl) (by kernel_rfl) (bb fun z=>(co fun no=>(aI (fun hp=>?_))))
 dsimp only[aG]at hp
 refine⟨Nat.le_of_ble_eq_true rfl,L0,ah _,?_⟩
 ·unfold ae Tryz.f37
  try unfold eo
  simp only[go_sem,Nat.reduceBEq,Nat.reduceLeDiff,Nat.reduceLT,decide_true,Nat.reduceAdd,Nat.reduceSub,Nat.reduceMul,Int.reduceLE,Int.reduceLT,Int.reduceToNat,Int.reduceNeg,reduceCtorEq]
  all_goals exact cl
@[go_sem] def ap (x:List Deed)(target:Int)(k_0:Nat)(s_0:Int×Int):Int⊕(Int×Int):=(bif(decide (s_0.1<s_0.2))then(bif(decide ((eo (x.getD (Int.toNat (IntKind.i64.wrap (br .u64 (IntKind.u64.wrap (IntKind.i64.wrap (s_0.1+s_0.2))) 1))) (default:Deed)) target) <0))then .inr ((IntKind.i64.wrap ((IntKind.i64.wrap (br .u64 (IntKind.u64.wrap (IntKind.i64.wrap (s_0.1+s_0.2))) 1))+1)),s_0.2)else .inr (s_0.1,(IntKind.i64.wrap (br .u64 (IntKind.u64.wrap (IntKind.i64.wrap (s_0.1+s_0.2))) 1))))else .inl s_0.1)
def aJ (x:List Deed)(target:Int)(k_0:Nat)(s_0:Int×Int):Prop:=((decide (s_0.1<s_0.2))=true→(0≤(IntKind.i64.wrap (br .u64 (IntKind.u64.wrap (IntKind.i64.wrap (s_0.1+s_0.2))) 1))∧(IntKind.i64.wrap (br .u64 (IntKind.u64.wrap (IntKind.i64.wrap (s_0.1+s_0.2))) 1)) < (x.length:Int)))
def aw (x:List Deed)(target:Int):Int×Bool:=(match ak (ap x target) (x.length+1) 0 (0,(x.length:Int))with| .inl x_0_0=>(x_0_0,((decide (x_0_0< (x.length:Int)))&&((eo (x.getD (Int.toNat x_0_0) (default:Deed)) target) ==0))) | .inr s_0=>default)
def bJ (x:List Deed)(target:Int):Prop:=(x.length≤bv→(okI (ap x target) (aJ x target) (x.length+1) 0 (0,(x.length:Int))∧(∀ z_,ak (ap x target) (x.length+1) 0 (0,(x.length:Int))≠ .inr z_)∧(∀ x_0_0,ak (ap x target) (x.length+1) 0 (0,(x.length:Int))=.inl x_0_0→((decide (x_0_0< (x.length:Int)))=true→(0≤x_0_0∧x_0_0< (x.length:Int))))))
@[go_sem] def dB:List SV→Option Con:=(pR .deed fun x=>(pI fun target=>(pFn 37 (pE ((pE (.det (bJ x target) (.tup [.v (.int .i64 ((aw x target).1)),.v (.bool ((aw x target).2))]))))))))
theorem fu:FnOk Tryz.prog 36 dB:=by
 have hG:ConsOk Tryz.prog (mkG [(37,fun l=>oH (cT [.st .deed,.o] l))] []):=ay (cgc (tq.norm [.st .deed,.o]) cg0) cg0
 refine aU [.o,.o] mixed am hG (fn:=Tryz.f36) (c:=ae Tryz.f36) (by kernel_rfl) (by kernel_rfl) (by kernel_rfl) (by kernel_rfl) (dw fun x=>(co fun target=>(ta (aI ((aI (fun hp=>?_)))))))
 dsimp only[aG]at hp
 unfold bJ at hp
 refine⟨Nat.le_of_ble_eq_true rfl,(fun id st=>bif Nat.beq id 0 then some (LCV (ρ:=Int) (σ:=(Int×Int)) 0 [] [] (fun k_0 s_0=>⟨[(0,.rs .deed x),(1,.v (.int .i64 target)),(2,.fn 37 [] []),(8,.v (.int .i64 (x.length:Int))),(9,.v (.int .i64 s_0.1)),(10,.v (.int .i64 s_0.2))],[]⟩) (ap x target) (aJ x target) (x.length+1) (0,(x.length:Int)) (fun _=>.normal) (fun x_0_0=>⟨[(0,.rs .deed x),(1,.v (.int .i64 target)),(2,.fn 37 [] []),(8,.v (.int .i64 (x.length:Int))),(9,.v (.int .i64 x_0_0))],[]⟩) st)else none),?_,?_⟩
 ·unfold ae Tryz.f36
  simp only[al,true_and,and_true]
  ·refine eO mixed am hG (by kernel_rfl) (fun _=>rfl) fun k_0 s_0 hq0=>⟨L0,ah _,?_⟩
   ·unfold aJ at hq0
    exact BI
 ·unfold ae Tryz.f36
  try unfold aw
  simp only[go_sem,Nat.reduceBEq,Nat.reduceLeDiff,Nat.reduceLT,decide_true,Nat.reduceAdd,Nat.reduceSub,Nat.reduceMul,Int.reduceLE,Int.reduceLT,Int.reduceToNat,Int.reduceNeg,reduceCtorEq]
  all_goals exact cl
def bo (l_:List Deed)(v_:List Deed):List Deed:=(bif((v_.length:Int) ==0)then l_ else(l_++v_))
def bP (l_:List Deed)(v_:List Deed):Prop:=((0≤(l_.length:Int)∧(l_.length:Int)≤(l_.length:Int))∧(v_.length≤bv→(((v_.length:Int) ==0)=false→(l_.length≤bv→((l_++v_).length*88≤gJ)))))
noncomputable def dR:List SV→List Ob→Option HCon:=gF (fun x_:Int×(List Deed)×(List Deed) =>[.os 0,.v (.int .i64 x_.1),.os 1]) (fun x_=>[.row .deed x_.2.1,.row .deed x_.2.2]) (fun x_=>eM (x_.1=(x_.2.1.length:Int)∧(bP x_.2.1 x_.2.2)) (.os 2) [.dead,.row .deed x_.2.2,.row .deed (bo x_.2.1 x_.2.2)])
@[go_sem] theorem rf (i:Int)(l_:List Deed)(v_:List Deed):dR ([.os 0,.v (.int .i64 i),.os 1]) ([.row .deed l_,.row .deed v_])=some (eM (i=(l_.length:Int)∧(bP l_ v_)) (.os 2) [.dead,.row .deed v_,.row .deed (bo l_ v_)]):=eB (A:=fun x_:Int×(List Deed)×(List Deed) =>[.os 0,.v (.int .i64 x_.1),.os 1]) (H:=fun x_=>[.row .deed x_.2.1,.row .deed x_.2.2]) (K:=fun x_=>eM (x_.1=(x_.2.1.length:Int)∧(bP x_.2.1 x_.2.2)) (.os 2) [.dead,.row .deed x_.2.2,.row .deed (bo x_.2.1 x_.2.2)]) (x:=(i,l_,v_))
theorem jO:FnOkO Tryz.prog 39 (dR):=by
 have hG:ConsOk Tryz.prog (mkG [] []):=ay cg0 cg0
 refine fR mixed am hG (fn:=Tryz.f39) (c:=ae Tryz.f39) (by kernel_rfl) (by kernel_rfl) (by kernel_rfl) (by kernel_rfl) fun l o con h=>?_
 obtain⟨⟨i,l_,v_⟩,rfl,rfl,rfl⟩:=dy h
 clear h
 try dsimp only
 refine⟨_,_,_,rfl,fun hp=>?_⟩
 obtain⟨rfl,hp⟩:=hp
 unfold bP at hp
 refine⟨Nat.le_of_ble_eq_true rfl,L0,?_,?_⟩
 ·unfold ae Tryz.f39
  simp only[al,and_self,true_and,and_true]
 ·unfold ae Tryz.f39
  try unfold bo
  simp only[go_sem,Nat.reduceBEq,Nat.reduceLeDiff,Nat.reduceLT,decide_true,Nat.reduceAdd,Nat.reduceSub,Nat.reduceMul,Int.reduceLE,Int.reduceLT,Int.reduceToNat,Int.reduceNeg,reduceCtorEq,beq_self_eq_true]
  all_goals exact Ii
def kv (d:District)(l_:List Deed)(x:Deed):List Deed×Int:=(bif((aq d l_) !=0)then([],(aq d l_))else(bif(aw l_ x.no).2 then([],171)else(bif((aq d (bo l_ ([x]))) !=0)then([],(aq d (bo l_ ([x]))))else((bo l_ ([x])),0))))
def fW (d:District)(l_:List Deed)(x:Deed):Prop:=((dM d l_)∧(((aq d l_) !=0)=false→((bJ l_ x.no)∧((aw l_ x.no).2=false→((l_.length*88≤gJ)∧(((aw l_ x.no).1=(l_.length:Int))∧((bP l_ ([x]))∧(dM d (bo l_ ([x]))))))))))
@[go_sem] def nA:List SV→Option Con:=(pD .district fun d=>(pR .deed fun l_=>(pD .deed fun x=>(pE (.det (fW d l_ x) (.tup [.nw .deed ((kv d l_ x).1),.v (.int .i64 ((kv d l_ x).2))]))))))
theorem pA:FnOk Tryz.prog 13 nA:=by
 have hG:ConsOk Tryz.prog (mkG [(15,fun l=>fV (cT [.st .district,.sl .deed] l)),(36,fun l=>dB (cT [.sl .deed,.o,.o] l)),(40,fun l=>i0 (cT [.sl .deed] l))] [(39,dR)]):=ay (cgc (g_.norm [.st .district,.sl .deed]) (cgc (fu.norm [.sl .deed,.o,.o]) (cgc (mh.norm [.sl .deed]) cg0))) (cgc jO cg0)
 refine n_ [(.tmp 6,.deed)] mixed am hG (fn:=Tryz.f13) (c:=ae Tryz.f13) (by kernel_rfl) (by kernel_rfl) (by kernel_rfl) (by kernel_rfl) (bb fun d=>(dw fun l_=>(bb fun x=>(aI (fun hp=>?_)))))
 dsimp only[aG]at hp
 unfold fW at hp
 refine⟨Nat.le_of_ble_eq_true rfl,L0,ah _,?_⟩
 ·unfold ae Tryz.f13
  try unfold kv
  simp only[go_sem,Nat.reduceBEq,Nat.reduceLeDiff,Nat.reduceLT,decide_true,Nat.reduceAdd,Nat.reduceSub,Nat.reduceMul,Int.reduceLE,Int.reduceLT,Int.reduceToNat,Int.reduceNeg,reduceCtorEq]
  all_goals exact cl3
end Go.Sx
end
section
namespace Go.Sx
open Go.Proofs
set_option maxRecDepth 100000
set_option linter.unusedSimpArgs false
theorem Ij {p:Prop}(h:p:=by(first|done|(repeat' (first|with_reducible refine And.intro ?_ ?_|((with_reducible show _≠_);first|assumption|omega|(simp_all [aX,bu];done) |grind) |with_reducible intro _)) <;>(first|done|with_reducible exact Empty.elim ‹Empty› |with_reducible assumption|rfl|omega|assumption|decide|exact fk [0,1,2,3,4] |exact czl|(simp only[*,cond_true,cond_false,Bool.not_true,Bool.not_false,go_sem,Nat.reduceBEq,Nat.reduceLeDiff,Nat.reduceLT,decide_true,Nat.reduceAdd,Nat.reduceSub,Nat.reduceMul,Int.reduceLE,Int.reduceLT,Int.reduceToNat,Int.reduceNeg,reduceCtorEq];(repeat' (first|with_reducible refine And.intro ?_ ?_|((with_reducible show _≠_);first|assumption|omega|(simp_all [aX,bu];done) |grind) |with_reducible intro _)) <;>(first|done|assumption|rfl|omega|decide|exact fk [0,1,2,3,4] |(simp_all [aX,bu];done))) |(simp_all [okI,aX,bu];done) |(simp_all [aX,bu];(first|done|exact fk2 [0,1,2,3,4])) |exact fk2 [0,1,2,3,4]))):p:=h
theorem Ik {p:Prop}(h:p:=by(first|done|(repeat' (first|with_reducible refine And.intro ?_ ?_|((with_reducible show _≠_);first|assumption|omega|(simp_all [aX,bu];done) |grind) |with_reducible intro _)) <;>(first|done|with_reducible exact Empty.elim ‹Empty› |with_reducible assumption|rfl|omega|assumption|decide|exact fk [0,1,2,3,4,0] |exact fk [0,1,2,3,4,5] |exact czl|(simp only[*,cond_true,cond_false,Bool.not_true,Bool.not_false,go_sem,Nat.reduceBEq,Nat.reduceLeDiff,Nat.reduceLT,decide_true,Nat.reduceAdd,Nat.reduceSub,Nat.reduceMul,Int.reduceLE,Int.reduceLT,Int.reduceToNat,Int.reduceNeg,reduceCtorEq];(repeat' (first|with_reducible refine And.intro ?_ ?_|((with_reducible show _≠_);first|assumption|omega|(simp_all [aX,bu];done) |grind) |with_reducible intro _)) <;>(first|done|assumption|rfl|omega|decide|exact fk [0,1,2,3,4,0] |exact fk [0,1,2,3,4,5] |(simp_all [aX,bu];done))) |(simp_all [okI,aX,bu];done) |(simp_all [aX,bu];(first|done|exact fk2 [0,1,2,3,4,0] |exact fk2 [0,1,2,3,4,5])) |exact fk2 [0,1,2,3,4,0] |exact fk2 [0,1,2,3,4,5]))):p:=h
theorem Il {p:Prop}(h:p:=by simp only[go_sem,Nat.reduceBEq,Nat.reduceLeDiff,Nat.reduceLT,decide_true,Nat.reduceAdd,Nat.reduceSub,Nat.reduceMul,Int.reduceLE,Int.reduceLT,Int.reduceToNat,Int.reduceNeg,reduceCtorEq];all_goals exact Ij):p:=h
def aQ (x:Deed)(known:Int)(hour:Int)(void_:List (Int×Bool)):Bool:=((((x.kind==4) ||(decide (x.known > known))) ||(decide (x.at_ > hour))) ||(dz .int .bool void_ x.no))
@[go_sem] def g6:List SV→Option Con:=(pD .deed fun x=>(pX .int fun known=>(pX .int fun hour=>(pXM .int .bool fun void_=>(pE (.det True (.v (.bool (aQ x known hour void_)))))))))
theorem kw:FnOk Tryz.prog 76 g6:=by
 have hG:ConsOk Tryz.prog (mkG [] []):=ay cg0 cg0
 refine aU [.o] mixed am hG (fn:=Tryz.f76) (c:=ae Tryz.f76) (by kernel_rfl) (by kernel_rfl) (by kernel_rfl) (by kernel_rfl) (bb fun x=>(Ag fun known=>(Ag fun hour=>(ET fun void_=>(aI (fun hp=>?_))))))
 dsimp only[aG]at hp
 refine⟨Nat.le_of_ble_eq_true rfl,L0,ah _,?_⟩
 ·unfold ae Tryz.f76
  try unfold aQ
  simp only[go_sem,Nat.reduceBEq,Nat.reduceLeDiff,Nat.reduceLT,decide_true,Nat.reduceAdd,Nat.reduceSub,Nat.reduceMul,Int.reduceLE,Int.reduceLT,Int.reduceToNat,Int.reduceNeg,reduceCtorEq]
  all_goals exact cl
def cC (a:Deed)(b:Deed):Int:=(dh a.at_ b.at_)
@[go_sem] def g7:List SV→Option Con:=(pD .deed fun a=>(pD .deed fun b=>(pE (.det True (.v (.int .i64 (cC a b)))))))
theorem kx:FnOk Tryz.prog 78 g7:=by
 have hG:ConsOk Tryz.prog (mkG [(38,fA)] []):=ay (cgc gB cg0) cg0
 refine aU [.o] mixed am hG (fn:=Tryz.f78) (c:=ae Tryz.f78) (by kernel_rfl) (by kernel_rfl) (by kernel_rfl) (by kernel_rfl) (bb fun a=>(bb fun b=>(aI (fun hp=>?_))))
 dsimp only[aG]at hp
 refine⟨Nat.le_of_ble_eq_true rfl,L0,ah _,?_⟩
 ·unfold ae Tryz.f78
  try unfold cC
  simp only[go_sem,Nat.reduceBEq,Nat.reduceLeDiff,Nat.reduceLT,decide_true,Nat.reduceAdd,Nat.reduceSub,Nat.reduceMul,Int.reduceLE,Int.reduceLT,Int.reduceToNat,Int.reduceNeg,reduceCtorEq]
  all_goals exact cl
@[go_sem] def c9 (s_:List Deed)(known:Int)(hour:Int)(void_:List (Int×Bool))(k_0:Nat)(s_0:Unit):Int⊕Unit:=(bif(aQ (s_.getD k_0 (default:Deed)) known hour void_)then .inl (k_0:Int)else .inr ())
def ai (s_:List Deed)(known:Int)(hour:Int)(void_:List (Int×Bool)):Int:=(match ak (c9 s_ known hour void_) s_.length 0 ()with| .inl x_0_0=>x_0_0| .inr s_0=>(-1))
@[go_sem] def et:List SV→Option Con:=(pR .deed fun s_=>(pFn 76 (pX .int fun known=>(pX .int fun hour=>(pXM .int .bool fun void_=>(pE ((pE (.det True (.v (.int .i64 (ai s_ known hour void_))))))))))))
theorem ic:FnOk Tryz.prog 65 et:=by
 have hG:ConsOk Tryz.prog (mkG [(76,fun l=>g6 (cT [.st .deed,.o,.o,.o] l))] []):=ay (cgc (kw.norm [.st .deed,.o,.o,.o]) cg0) cg0
 refine aU [.o] mixed am hG (fn:=Tryz.f65) (c:=ae Tryz.f65) (by kernel_rfl) (by kernel_rfl) (by kernel_rfl) (by kernel_rfl) (dw fun s_=>(ta (Ag fun known=>(Ag fun hour=>(ET fun void_=>(aI ((aI (fun hp=>?_)))))))))
 dsimp only[aG]at hp
 refine⟨Nat.le_of_ble_eq_true rfl,(fun id st=>bif Nat.beq id 0 then some (LCR (ρ:=Int) (σ:=Unit) 0 [] [] (fun k_0 s_0=>⟨[(0,.rs .deed s_),(1,.fn 76 [] [.ep [.v (.int .i64 known)] 0,.ep [.v (.int .i64 hour)] 0,.ep [.rm .int .bool void_] 0]),(7,.v (.int .i64 (s_.length:Int))),(8,.v (.int .i64 (k_0:Int)))],[]⟩) (c9 s_ known hour void_) pT s_.length () (s_.length≤bv) (fun _=>.ret) (fun x_0_0=>⟨[(4,.v (.int .i64 x_0_0))],[]⟩) st)else none),?_,?_⟩
 ·unfold ae Tryz.f65
  simp only[al,true_and,and_true]
  ·refine eh mixed am hG (by kernel_rfl) (fun _=>rfl) (s_.length:Int) rfl gM (fun hb0 k_0 s_0 hlt0 _ hw hc=>⟨L0,ah _,?_⟩) (fun hb0 s_0 hc=>?_)
   ·exact jh
   ·exact ji
 ·unfold ae Tryz.f65
  try unfold ai
  simp only[go_sem,Nat.reduceBEq,Nat.reduceLeDiff,Nat.reduceLT,decide_true,Nat.reduceAdd,Nat.reduceSub,Nat.reduceMul,Int.reduceLE,Int.reduceLT,Int.reduceToNat,Int.reduceNeg,reduceCtorEq]
  all_goals exact cl
@[go_sem] noncomputable def dm:List SV→Option Con:=fun l=>(orC (dx l) (et l))
theorem iw:FnOk Tryz.prog 65 dm:=(FnOk.or eA ic)
@[go_sem] def aM (l_:List Deed)(known:Int)(hour:Int)(void_:List (Int×Bool))(k_0:Nat)(s_0:List Deed×Int×Int):(Int×List Deed)⊕(List Deed×Int×Int):=(bif(decide (s_0.2.2< (s_0.1.length:Int)))then(bif(!(aQ (s_0.1.getD (Int.toNat s_0.2.2) (default:Deed)) known hour void_))then .inr ((s_0.1.set (Int.toNat s_0.2.1) (s_0.1.getD (Int.toNat s_0.2.2) (default:Deed))),(IntKind.i64.wrap (s_0.2.1+1)),(IntKind.i64.wrap (s_0.2.2+1)))else .inr (s_0.1,s_0.2.1,(IntKind.i64.wrap (s_0.2.2+1))))else .inl (s_0.2.1,s_0.1))
def bG (l_:List Deed)(known:Int)(hour:Int)(void_:List (Int×Bool))(k_0:Nat)(s_0:List Deed×Int×Int):Prop:=(s_0.1.length≤bv→((decide (s_0.2.2< (s_0.1.length:Int)))=true→((0≤s_0.2.2∧s_0.2.2< (s_0.1.length:Int))∧((!(aQ (s_0.1.getD (Int.toNat s_0.2.2) (default:Deed)) known hour void_))=true→(0≤s_0.2.1∧s_0.2.1< (s_0.1.length:Int))))))
def aS (l_:List Deed)(known:Int)(hour:Int)(void_:List (Int×Bool)):List Deed:=(bif((ai l_ known hour void_) ==(-1))then l_ else(match ak (aM l_ known hour void_) (l_.length+1) 0 (l_,(ai l_ known hour void_),(IntKind.i64.wrap ((ai l_ known hour void_)+1)))with| .inl x_0_0=>(((wa .deed x_0_0.2 x_0_0.1 (x_0_0.2.length:Int)).take (Int.toNat x_0_0.1)).drop 0) | .inr s_0=>default))
def aZ (l_:List Deed)(known:Int)(hour:Int)(void_:List (Int×Bool)):Prop:=(((ai l_ known hour void_) ==(-1))=false→(okI (aM l_ known hour void_) (bG l_ known hour void_) (l_.length+1) 0 (l_,(ai l_ known hour void_),(IntKind.i64.wrap ((ai l_ known hour void_)+1)))∧(∀ z_,ak (aM l_ known hour void_) (l_.length+1) 0 (l_,(ai l_ known hour void_),(IntKind.i64.wrap ((ai l_ known hour void_)+1)))≠ .inr z_)∧(∀ x_0_0,ak (aM l_ known hour void_) (l_.length+1) 0 (l_,(ai l_ known hour void_),(IntKind.i64.wrap ((ai l_ known hour void_)+1)))=.inl x_0_0→((0≤x_0_0.1∧x_0_0.1≤(x_0_0.2.length:Int))∧(0≤0∧0≤x_0_0.1∧x_0_0.1≤((wa .deed x_0_0.2 x_0_0.1 (x_0_0.2.length:Int)).length:Int))))))
noncomputable def dp:List SV→List Ob→Option HCon:=gF (fun x_:(List Deed)×Int×Int×(List (Int×Bool)) =>[.os 0,.fn 76 [] [.ptr 1 0,.ptr 2 0,.ptr 3 0]]) (fun x_=>[.row .deed x_.1,.cells [.v (.int .i64 x_.2.1)],.cells [.v (.int .i64 x_.2.2.1)],.cells [.os 4],.mp .int .bool x_.2.2.2 none]) (fun x_=>eM (aZ x_.1 x_.2.1 x_.2.2.1 x_.2.2.2) (.os 5) [.dead,.cells [.v (.int .i64 x_.2.1)],.cells [.v (.int .i64 x_.2.2.1)],.cells [.os 4],.mp .int .bool x_.2.2.2 none,.row .deed (aS x_.1 x_.2.1 x_.2.2.1 x_.2.2.2)])
@[go_sem] theorem pJ (l_:List Deed)(known:Int)(hour:Int)(void_:List (Int×Bool)){p4_:Option (Nat×Option Tag.int.T)}(hp4_:p4_=none):dp ([.os 0,.fn (76:Nat) [] [.ptr 1 0,.ptr 2 0,.ptr 3 0]]) ([.row .deed l_,.cells [.v (.int .i64 known)],.cells [.v (.int .i64 hour)],.cells [.os 4],.mp .int .bool void_ p4_])=some (eM (aZ l_ known hour void_) (.os 5) [.dead,.cells [.v (.int .i64 known)],.cells [.v (.int .i64 hour)],.cells [.os 4],.mp .int .bool void_ none,.row .deed (aS l_ known hour void_)]):=by
 subst hp4_;exact eB (A:=fun x_:(List Deed)×Int×Int×(List (Int×Bool)) =>[.os 0,.fn 76 [] [.ptr 1 0,.ptr 2 0,.ptr 3 0]]) (H:=fun x_=>[.row .deed x_.1,.cells [.v (.int .i64 x_.2.1)],.cells [.v (.int .i64 x_.2.2.1)],.cells [.os 4],.mp .int .bool x_.2.2.2 none]) (K:=fun x_=>eM (aZ x_.1 x_.2.1 x_.2.2.1 x_.2.2.2) (.os 5) [.dead,.cells [.v (.int .i64 x_.2.1)],.cells [.v (.int .i64 x_.2.2.1)],.cells [.os 4],.mp .int .bool x_.2.2.2 none,.row .deed (aS x_.1 x_.2.1 x_.2.2.1 x_.2.2.2)]) (x:=(l_,known,hour,void_))
theorem ix:FnOkO Tryz.prog 75 (dp):=by
 have hG:ConsOk Tryz.prog (mkG [(65,fun l=>dm (cT [.sl .deed,.o] l)),(76,fun l=>g6 (cT [.st .deed,.o,.o,.o] l))] []):=ay (cgc (iw.norm [.sl .deed,.o]) (cgc (kw.norm [.st .deed,.o,.o,.o]) cg0)) cg0
 refine fR mixed am hG (fn:=Tryz.f75) (c:=ae Tryz.f75) (by kernel_rfl) (by kernel_rfl) (by kernel_rfl) (by kernel_rfl) fun l o con h=>?_
 obtain⟨⟨l_,known,hour,void_⟩,rfl,rfl,rfl⟩:=dy h
 clear h
 try dsimp only
 refine⟨_,_,_,rfl,fun hp=>?_⟩
 unfold aZ at hp
 refine⟨Nat.le_of_ble_eq_true rfl,(fun id st=>bif Nat.beq id 0 then some (LCV (ρ:=(Int×List Deed)) (σ:=(List Deed×Int×Int)) 5 [] [0,1,2,3,4] (fun k_0 s_0=>⟨[(0,.os 0),(1,.fn 76 [] [.ptr 1 0,.ptr 2 0,.ptr 3 0]),(5,.v (.int .i64 s_0.2.1)),(6,.v (.int .i64 s_0.2.2))],[.row .deed s_0.1,.cells [.v (.int .i64 known)],.cells [.v (.int .i64 hour)],.cells [.os 4],.mp .int .bool void_ none]⟩) (aM l_ known hour void_) (bG l_ known hour void_) (l_.length+1) (l_,(ai l_ known hour void_),(IntKind.i64.wrap ((ai l_ known hour void_)+1))) (fun _=>.normal) (fun x_0_0=>⟨[(0,.os 0),(5,.v (.int .i64 x_0_0.1))],[.row .deed x_0_0.2,.cells [.v (.int .i64 known)],.cells [.v (.int .i64 hour)],.cells [.os 4],.mp .int .bool void_ none]⟩) st)else none),?_,?_⟩
 ·unfold ae Tryz.f75
  simp only[al,true_and,and_true,and_assoc]
  ·refine eO mixed am hG (by kernel_rfl) (fun _=>rfl) fun k_0 s_0 hq0=>⟨L0,ah _,?_⟩
   ·unfold bG at hq0
    exact Il
 ·unfold ae Tryz.f75
  try unfold aS
  simp only[go_sem,Nat.reduceBEq,Nat.reduceLeDiff,Nat.reduceLT,decide_true,Nat.reduceAdd,Nat.reduceSub,Nat.reduceMul,Int.reduceLE,Int.reduceLT,Int.reduceToNat,Int.reduceNeg,reduceCtorEq,dm]
  all_goals exact Ik
end Go.Sx
end
