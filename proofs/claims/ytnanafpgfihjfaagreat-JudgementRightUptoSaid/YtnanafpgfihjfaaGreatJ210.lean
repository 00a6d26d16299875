/- Part of the proof that the law JudgementRight returns true and leaves its arguments as they were, for all arguments of bulk at most 1048576 (the Upto form). -/
import Derived.Test.YtnanafpgfihjfaaGreatJ209
import Derived.Test.YtnanafpgfihjfaaGreatJ207
import Derived.Test.YtnanafpgfihjfaaGreatJ208
import Derived.Calls
import Derived.Shelf.SlSortCmp.NoneTotal
import Derived.Ground.SlsfProg
import Derived.Test.YtnanafpgfihjfaaGreatProg
import Derived.Test.YtnanafpgfihjfaaGreatJ206
import Derived.Test.YtnanafpgfihjfaaGreatJ201
set_option linter.all false
set_option maxHeartbeats 4000000
set_option maxRecDepth 100000
section
namespace Go.Sx
open Go.Proofs
open IntKind (i64)
abbrev JR (j:List Judgement):Prop:= ∀ y∈j,-9223372036854775808≤y.of_∧y.of_<9223372036854775808
theorem Da (j:List Judgement)(x:Judgement)(hour:Int):∀ (n i:Nat),
  (decide ((match aw (bG j x hour) n i ()with| .inl x_0_0=>x_0_0| .inr s_0=>(-1))≥(0:Int)))=(match aw (rX j x hour) n i ()with| .inl x_0_0=>true| .inr s_0=>false)
 |0,i=>rfl
 |n+1,i=>by
  simp only[aw,bG,rX,lz];rcases Bool.eq_false_or_eq_true (((j.getD i (default:Judgement)).of_==i64.wrap (x.no+1))&&decide ((j.getD i (default:Judgement)).hour≤hour))with h|h
  ·simp only[h,cond_true];exact decide_eq_true (Int.natCast_nonneg i)
  ·simp only[h,cond_false];exact Da j x hour n (i+1)
theorem M5 (j:List Judgement)(x:Judgement)(hour:Int):dY j x hour=sR j x hour:=Da j x hour j.length 0
theorem wy {d:District}{j:List Judgement}(h:fC d j=0):fB d=0∧j.length≤64∧∀ k,k<j.length→iS d (j.take k) (j.getD k default)=true:=by
 unfold fC at h;cases hc:(fB d !=0)with
 |true=>
  rw[hc]at h;simp only[cond_true]at h;rw[h]at hc;cases hc
 |false=>
  rw[hc]at h;simp only[cond_false]at h;have hc':fB d=0:=by simpa using hc
  by_cases hl:j.length≤64
  ·rw[decide_eq_false (by omega:¬ (j.length:Int) > 64)]at h;simp only[cond_false]at h;refine⟨hc',hl,fun k hk=>?_⟩;cases hr:aw (iu d j) j.length 0 ()with
   |inl y=>rw[hr]at h;cases h
   |inr s=>
    have:=ov hr k (by omega) (by omega);simp only[iu,List.drop_zero]at this;cases hq:iS d (j.take k) (j.getD k default)with
    |true=>rfl
    |false=>rw[hq]at this;cases this
  ·rw[decide_eq_true (by omega:(j.length:Int) > 64)]at h;cases h
structure JOk (d:District)(x:Judgement):Prop where
 no:0≤x.no∧x.no≤1048576
 end_:x.of_≠0→x.kind=0
 kind:x.of_=0→1≤x.kind∧x.kind≤4
 farm:x.of_=0→0≤x.farm∧x.farm< (d.farms.length:Int)
 none:x.kind=1→x.n=0
 n:x.kind≠1→x.of_=0→1≤x.n∧x.n≤1073741824
 other:3≤x.kind→0≤x.other∧x.other< (d.farms.length:Int)∧x.other≠x.farm
theorem jok {d:District}{b:List Judgement}{x:Judgement}(hf:d.farms.length≤600)(h:iS d b x=true):JOk d x:=by
 unfold iS at h;cases h1:((!(aL x.no 0 1048576)) ||(!(aL x.hour 0 d.hours))) ||((decide ((b.length:Int) > 0))&&((decide (x.no≤(b.getD (Int.toNat (i64.wrap ((b.length:Int) - 1))) (default:Judgement)).no)) ||(decide (x.hour< (b.getD (Int.toNat (i64.wrap ((b.length:Int) - 1))) (default:Judgement)).hour))))with
 |true=>rw[h1]at h;cases h
 |false=>
  rw[h1]at h;simp only[cond_false]at h;have hno:0≤x.no∧x.no≤1048576:=by
   have h2:aL x.no 0 1048576=true:=by
    cases hw:aL x.no 0 1048576 with
    |true=>rfl
    |false=>rw[hw]at h1;simp at h1
   simpa[FZ]using h2
  cases ho:x.of_==0 with
  |false=>
   rw[ho]at h;simp only[cond_false,Bool.and_eq_true]at h;have ho':x.of_≠0:=fun e=>by rw[e]at ho;cases ho
   have hk:x.kind=0:=by
    have h2:=h.2;unfold mN at h2;cases hz:(((((x.kind !=0) ||(x.farm !=0)) ||(x.other !=0)) ||(x.since !=0)) ||(x.to !=0)) ||(x.n !=0)with
    |true=>rw[hz]at h2;cases h2
    |false=>simp only[Bool.or_eq_false_iff]at hz;simpa using hz.1.1.1.1.1
   exact⟨hno,fun _=>hk,fun e=>absurd e ho',fun e=>absurd e ho',fun e=>by omega,fun _ e=>absurd e ho',fun e=>by omega⟩
  |true=>
   rw[ho]at h;simp only[cond_true]at h;have ho':x.of_=0:=eq_of_beq ho;unfold lY at h;rw[HT (by omega:d.farms.length≤4096)]at h;simp only[FZ]at h;have key:(1≤x.kind∧x.kind≤4)∧(0≤x.farm∧x.farm≤(d.farms.length:Int) - 1)∧(x.kind=1→x.n=0)∧(x.kind≠1→1≤x.n∧x.n≤1073741824)∧(3≤x.kind→(0≤x.other∧x.other≤(d.farms.length:Int) - 1)∧x.other≠x.farm):=by
    generalize ((d.farms.getD (Int.toNat x.other) (default:Farm)).reach==(d.farms.getD (Int.toNat x.farm) (default:Farm)).reach)=R at h;rw[Bool.cond_eq_ite]at h;split at h
    ·cases h
    rename_i hc;simp only[Bool.or_eq_true,Bool.not_eq_true',Bool.and_eq_false_iff,decide_eq_true_eq,decide_eq_false_iff_not,not_or]at hc;rw[Bool.cond_eq_ite]at h;split at h
    ·rename_i hk;have hk':=eq_of_beq hk;simp only[Bool.and_eq_true,beq_iff_eq]at h;omega
    rename_i hk1;have hk1':x.kind≠1:=fun e=>hk1 (by rw[e];rfl);rw[Bool.cond_eq_ite]at h;split at h
    ·rename_i hk;have hk':=eq_of_beq hk;simp only[Bool.and_eq_true,beq_iff_eq,decide_eq_true_eq]at h;omega
    rename_i hk2;rw[Bool.cond_eq_ite]at h;split at h
    ·cases h
    rename_i hc2;simp only[Bool.or_eq_true,Bool.not_eq_true',Bool.and_eq_false_iff,decide_eq_true_eq,decide_eq_false_iff_not,not_or,beq_iff_eq]at hc2;omega
   obtain⟨k1,k2,k3,k4,k5⟩:=key;exact⟨hno,fun e=>absurd ho' e,fun _=>k1,fun _=>⟨k2.1,by omega⟩,k3,fun e _=>k4 e,fun e=>⟨(k5 e).1.1,by have:=(k5 e).1.2;omega,(k5 e).2⟩⟩
theorem Td {d:District}{j:List Judgement}(h:fC d j=0):∀ k,k<j.length→JOk d (j.getD k default):=fun k hk=>by
 obtain⟨h1,_,h3⟩:=wy h;have h4:bN d=0:=by rw[tX];exact h1
 exact jok ((ow d).1 h4).1.2.1 (h3 k hk)
end Go.Sx
end
section
namespace Go.Sx
open Go.RowKit
def orC {α:Type 1}:Option α→Option α→Option α
 |some x,_=>some x
 |none,y=>y
@[go_sem] theorem Xo {α:Type 1}{x:α}{y:Option α}:orC (some x) y=some x:=(rfl)
@[go_sem] theorem Xp {α:Type 1}{y:Option α}:orC none y=y:=(rfl)
theorem wz {α:Type 1}{a b:Option α}{c:α}(h:orC a b=some c):a=some c∨b=some c:=by
 cases a with
 |none=>exact .inr h
 |some x=>exact .inl h
theorem FnOkO.or {P:Program}{f:FuncId}{C D:List SV→List Ob→Option HCon}(h1:FnOkO P f C)(h2:FnOkO P f D):FnOkO P f (fun l h=>orC (C l h) (D l h)):=
 ⟨fun l h c hc=>by rcases wz hc with e|e;exact h1.enter l h c e;exact h2.enter l h c e,
  fun l h c hc=>by rcases wz hc with e|e;exact h1.calls l h c e;exact h2.calls l h c e⟩
theorem FnOk.or {P:Program}{f:FuncId}{C D:List SV→Option Con}(h1:FnOk P f C)(h2:FnOk P f D):FnOk P f (fun l=>orC (C l) (D l)):=
 ⟨fun l c hc=>by rcases wz hc with e|e;exact h1.enter l c e;exact h2.enter l c e,
  fun l c hc=>by rcases wz hc with e|e;exact h1.calls l c e;exact h2.calls l c e⟩
def pXM {α:Type 1}(t t2:Tag)(k:List (t.T×t2.T)→List SV→Option α):List SV→Option α
 | .ep [s] 0::r=>pM t t2 k (s::r)
 |_=>none
@[go_sem] theorem Xq {α:Type 1}{t t2:Tag}{k:List (t.T×t2.T)→List SV→Option α}{s:SV}{r:List SV}:pXM t t2 k (.ep [s] 0::r)=pM t t2 k (s::r):=(rfl)
theorem Ei {α:Type 1}{G:List SV→α→Prop}{t t2:Tag}{k:List (t.T×t2.T)→List SV→Option α}(h:∀ n l c,k n l=some c→G (.ep [.rm t t2 n] 0::l) c):∀ l c,pXM t t2 k l=some c→G l c:=fun l c hc=>by
 unfold pXM at hc;split at hc
 ·obtain⟨x,r,e,h1⟩:=SJ hc;simp only[List.cons.injEq]at e;obtain⟨rfl,rfl⟩:=e;exact h x _ c h1
 ·cases hc
section
universe u
variable {α:Type u}{G:List SV→α→Prop}
def pLS (k:List SV→Option (List SV→Option α)):List SV→Option α
 | .ls l::r=>apO (k l) r
 |_=>none
@[go_sem] theorem aak {k:List SV→Option (List SV→Option α)}{l r:List SV}:pLS k (.ls l::r)=apO (k l) r:=(rfl)
theorem Jc {k:List SV→Option (List SV→Option α)}(h:∀ caps q,k caps=some q→∀ l c,q l=some c→G (.ls caps::l) c):∀ l c,pLS k l=some c→G l c:=fun l c hc=>by
 unfold pLS at hc;split at hc
 ·obtain⟨q,h1,h2⟩:=yc hc;exact h _ q h1 _ c h2
 ·cases hc
end
open Classical in
noncomputable def pL {τ:Type}(A:τ→List SV)(H:τ→List Ob)(K:τ→HCon):List SV→List Ob→Option HCon:=fun l h=>if e:∃ x,l=A x∧h=H x then some (K e.choose)else none
theorem Ej (d:District):(⟨d.name,d.hours,⟨d.tank.cap,d.tank.start⟩,d.reaches,d.farms,d.crops,d.rights,d.duties,d.wells⟩:District)=d:=rfl
theorem cl4 {p:Prop}(h:p:=by(repeat' (first|with_reducible refine And.intro ?_ ?_|with_reducible intro _)) <;>(first|done|with_reducible assumption|omega|(simp only[List.nil_append,List.append_nil,Int.toNat_natCast,eta_deed,Ej]at *;first|with_reducible assumption|omega|grind) |exact cl3)):p:=h
theorem Kz {k:Tag}{x y:k.T}:cellsOf k x=cellsOf k y↔x=y:=⟨fun h=>by
 have h1:=wo x;rw[h,wo y]at h1;exact(Option.some.inj h1).symm,fun h=>by rw[h]⟩
theorem mP {τ:Type}{A:τ→List SV}{H:τ→List Ob}{K:τ→HCon}{x:τ}(inj:∀ x y,A x=A y→H x=H y→x=y:=by
 intro x y h1 h2;simp only[List.cons.injEq,SV.agg.injEq,SV.ep.injEq,SV.v.injEq,Value.int.injEq,Value.bool.injEq,Value.string.injEq,SV.fn.injEq,SV.rs.injEq,SV.rm.injEq,Ob.row.injEq,Ob.mp.injEq,Ob.cells.injEq,Ob.grid.injEq,heq_eq_eq,Kz,true_and,and_true]at h1 h2;first|exact h2|exact h1|(simp_all [Prod.ext_iff];done)):pL A H K (A x) (H x)=some (K x):=by
 have e:∃ y,A x=A y∧H x=H y:=⟨x,rfl,rfl⟩;unfold pL;rw[dif_pos e];have:=inj _ _ e.choose_spec.1 e.choose_spec.2;rw[←this]
theorem ke {τ:Type}{A:τ→List SV}{H:τ→List Ob}{K:τ→HCon}{l:List SV}{h:List Ob}{c:HCon}(hh:pL A H K l h=some c):∃ x,l=A x∧h=H x∧c=K x:=by
 unfold pL at hh;split at hh
 ·rename_i e;simp only[Option.some.injEq]at hh;exact⟨e.choose,e.choose_spec.1,e.choose_spec.2,hh.symm⟩
 ·cases hh
end Go.Sx
end
section
namespace Go.Sx
open Go.Proofs
open IntKind (i64)
theorem tY {l0 l1 l2:List Nat}(a0:JL l0)(a1:JL l1)(a2:JL l2){p:Prop}(h:JL l0→JL l1→JL l2→p:=by intro ja jb jc;(first|done|(repeat' (first|with_reducible refine And.intro ?_ ?_|((with_reducible show _≠_);first|assumption|omega|(simp_all [d9,fA];done) |grind) |with_reducible intro _)) <;>(first|done|with_reducible exact Empty.elim ‹Empty› |with_reducible assumption|rfl|omega|assumption|decide|exact fk ja|exact fk jb|exact fk jc|exact czl|(simp only[*,cond_true,cond_false,Bool.not_true,Bool.not_false,go_sem,Nat.reduceBEq,Nat.reduceLeDiff,Nat.reduceLT,decide_true,Nat.reduceAdd,Nat.reduceSub,Nat.reduceMul,Int.reduceLE,Int.reduceLT,Int.reduceToNat,Int.reduceNeg,reduceCtorEq];(repeat' (first|with_reducible refine And.intro ?_ ?_|((with_reducible show _≠_);first|assumption|omega|(simp_all [d9,fA];done) |grind) |with_reducible intro _)) <;>(first|done|assumption|rfl|omega|decide|exact fk ja|exact fk jb|exact fk jc|(simp_all [d9,fA];done))) |(simp_all [okI,d9,fA];done) |(simp_all [d9,fA];(first|done|exact fk2 ja|exact fk2 jb|exact fk2 jc)) |exact fk2 ja|exact fk2 jb|exact fk2 jc))):p:=h a0 a1 a2
theorem M6 {l0 l1 l2:List Nat}(a0:JL l0)(a1:JL l1)(a2:JL l2){p:Prop}(h:JL l0→JL l1→JL l2→p:=by intro ja jb jc;simp only[go_sem,Nat.reduceBEq,Nat.reduceLeDiff,Nat.reduceLT,decide_true,Nat.reduceAdd,Nat.reduceSub,Nat.reduceMul,Int.reduceLE,Int.reduceLT,Int.reduceToNat,Int.reduceNeg,reduceCtorEq];all_goals exact tY ja jb jc):p:=h a0 a1 a2
def eE (y:Claim)(x_:Judgement)(r_:List Claim)(i_:Int):Bool:=((y.farm==x_.other)&&(y.right==(r_.getD (Int.toNat i_) (default:Claim)).right))
def gw (y:Claim)(x_:Judgement)(r_:List Claim)(i_:Int):Prop:=((y.farm==x_.other)=true→(0≤i_∧i_< (r_.length:Int)))
@[go_sem] noncomputable def mS:List SV→Option Con:=(pD .claim fun y=>(pX .judgement fun x_=>(pXR .claim fun r_=>(pX .int fun i_=>(pE (.det (gw y x_ r_ i_) (.v (.bool (eE y x_ r_ i_)))))))))
theorem r6:FnOk Tryz.prog 141 mS:=by
 have hG:ConsOk Tryz.prog (mkG [] []):=av cg0 cg0;refine ay [.o] mixed ap hG (fn:=Tryz.f141) (c:=ae Tryz.f141) kr kr kr kr (bF fun y=>(aR fun x_=>(Ag fun r_=>(aR fun i_=>(ak (fun hp=>?_))))));dsimp only[ax]at hp;unfold gw at hp;refine⟨nbl rfl,L0,ah _,?_⟩
 ·unfold ae Tryz.f141;try unfold eE
  exact zq1
@[go_sem] def bD (s_:List Claim)(x_:Judgement)(r_:List Claim)(i_:Int)(k_0:Nat)(s_0:Unit):Int⊕Unit:=(bif(eE (s_.getD k_0 (default:Claim)) x_ r_ i_)then .inl (k_0:Int)else .inr ())
def bq (s_:List Claim)(x_:Judgement)(r_:List Claim)(i_:Int)(k_0:Nat)(s_0:Unit):Prop:=(gw (s_.getD k_0 (default:Claim)) x_ r_ i_)
def ai (s_:List Claim)(x_:Judgement)(r_:List Claim)(i_:Int):Int:=(match aw (bD s_ x_ r_ i_) s_.length 0 ()with| .inl x_0_0=>x_0_0| .inr s_0=>(-1))
def bH (s_:List Claim)(x_:Judgement)(r_:List Claim)(i_:Int):Prop:=(s_.length≤aQ→okI (bD s_ x_ r_ i_) (bq s_ x_ r_ i_) s_.length 0 ())
@[go_sem] noncomputable def cU:List SV→Option Con:=(pR .claim fun s_=>(pFn 141 (pX .judgement fun x_=>(pXR .claim fun r_=>(pX .int fun i_=>(pE ((pE (.det (bH s_ x_ r_ i_) (.v (.int .i64 (ai s_ x_ r_ i_))))))))))))
theorem eW:FnOk Tryz.prog 142 cU:=by
 have hG:ConsOk Tryz.prog (mkG [(141,mS)] []):=av (cgc r6 cg0) cg0;refine ay [.o] mixed ap hG (fn:=Tryz.f142) (c:=ae Tryz.f142) kr kr kr kr (bY fun s_=>(bB (aR fun x_=>(Ag fun r_=>(aR fun i_=>(ak ((ak (fun hp=>?_)))))))));dsimp only[ax]at hp;unfold bH at hp;refine⟨nbl rfl,(fun id st=>bif Nat.beq id 0 then some (LCR (ρ:=Int) (σ:=Unit) 0 [] [] (fun k_0 s_0=>⟨[(0,.rs .claim s_),(1,.fn 141 [] [.ep (cellsOf .judgement x_) 0,.ep [.rs .claim r_] 0,.ep [.v (.int .i64 i_)] 0]),(7,.v (.int .i64 (s_.length:Int))),(8,.v (.int .i64 (k_0:Int)))],[]⟩) (bD s_ x_ r_ i_) (bq s_ x_ r_ i_) s_.length () (s_.length≤aQ) (fun _=>.ret) (fun x_0_0=>⟨[(4,.v (.int .i64 x_0_0))],[]⟩) st)else none),?_,?_⟩
 ·unfold ae Tryz.f142;simp only[aq,true_and,and_true]
  ·refine aY mixed ap hG kr (fun _=>rfl) (s_.length:Int) rfl im (fun hb0 k_0 s_0 hlt0 hq0 hw hc=>⟨L0,ah _,?_⟩) (fun hb0 s_0 hc=>?_)
   ·unfold bq at hq0;try simp only[hw,Int.toNat_natCast]at hq0
    exact bZ (jl [])
   ·exact bQ (jl [])
 ·unfold ae Tryz.f142;try unfold ai
  exact zq1
@[go_sem] noncomputable def c5:List SV→Option Con:=fun l=>(cU l)
theorem iU:FnOk Tryz.prog 142 c5:=eW
@[go_sem] def bp (x:Judgement)(l_:List Claim)(k_0:Nat)(s_0:Int×List Claim×Int):(List Claim)⊕(Int×List Claim×Int):=(bif(decide (s_0.1≥0))then(bif((s_0.2.1.getD (Int.toNat s_0.1) (default:Claim)).farm !=x.farm)then .inr ((i64.wrap (s_0.1 - 1)),s_0.2.1,s_0.2.2)else(bif(decide ((ai (s_0.2.1.set (Int.toNat s_0.1) ({ right:=(s_0.2.1.getD (Int.toNat s_0.1) (default:Claim)).right,farm:=(s_0.2.1.getD (Int.toNat s_0.1) (default:Claim)).farm,hour:=(s_0.2.1.getD (Int.toNat s_0.1) (default:Claim)).hour,litres:=(i64.wrap ((s_0.2.1.getD (Int.toNat s_0.1) (default:Claim)).litres - (if s_0.2.2< (s_0.2.1.getD (Int.toNat s_0.1) (default:Claim)).litres then s_0.2.2 else(s_0.2.1.getD (Int.toNat s_0.1) (default:Claim)).litres))),rank:=(s_0.2.1.getD (Int.toNat s_0.1) (default:Claim)).rank}:Claim)) x (s_0.2.1.set (Int.toNat s_0.1) ({ right:=(s_0.2.1.getD (Int.toNat s_0.1) (default:Claim)).right,farm:=(s_0.2.1.getD (Int.toNat s_0.1) (default:Claim)).farm,hour:=(s_0.2.1.getD (Int.toNat s_0.1) (default:Claim)).hour,litres:=(i64.wrap ((s_0.2.1.getD (Int.toNat s_0.1) (default:Claim)).litres - (if s_0.2.2< (s_0.2.1.getD (Int.toNat s_0.1) (default:Claim)).litres then s_0.2.2 else(s_0.2.1.getD (Int.toNat s_0.1) (default:Claim)).litres))),rank:=(s_0.2.1.getD (Int.toNat s_0.1) (default:Claim)).rank}:Claim)) s_0.1)≥0))then .inr ((i64.wrap (s_0.1 - 1)),((s_0.2.1.set (Int.toNat s_0.1) ({ right:=(s_0.2.1.getD (Int.toNat s_0.1) (default:Claim)).right,farm:=(s_0.2.1.getD (Int.toNat s_0.1) (default:Claim)).farm,hour:=(s_0.2.1.getD (Int.toNat s_0.1) (default:Claim)).hour,litres:=(i64.wrap ((s_0.2.1.getD (Int.toNat s_0.1) (default:Claim)).litres - (if s_0.2.2< (s_0.2.1.getD (Int.toNat s_0.1) (default:Claim)).litres then s_0.2.2 else(s_0.2.1.getD (Int.toNat s_0.1) (default:Claim)).litres))),rank:=(s_0.2.1.getD (Int.toNat s_0.1) (default:Claim)).rank}:Claim)).set (Int.toNat (ai (s_0.2.1.set (Int.toNat s_0.1) ({ right:=(s_0.2.1.getD (Int.toNat s_0.1) (default:Claim)).right,farm:=(s_0.2.1.getD (Int.toNat s_0.1) (default:Claim)).farm,hour:=(s_0.2.1.getD (Int.toNat s_0.1) (default:Claim)).hour,litres:=(i64.wrap ((s_0.2.1.getD (Int.toNat s_0.1) (default:Claim)).litres - (if s_0.2.2< (s_0.2.1.getD (Int.toNat s_0.1) (default:Claim)).litres then s_0.2.2 else(s_0.2.1.getD (Int.toNat s_0.1) (default:Claim)).litres))),rank:=(s_0.2.1.getD (Int.toNat s_0.1) (default:Claim)).rank}:Claim)) x (s_0.2.1.set (Int.toNat s_0.1) ({ right:=(s_0.2.1.getD (Int.toNat s_0.1) (default:Claim)).right,farm:=(s_0.2.1.getD (Int.toNat s_0.1) (default:Claim)).farm,hour:=(s_0.2.1.getD (Int.toNat s_0.1) (default:Claim)).hour,litres:=(i64.wrap ((s_0.2.1.getD (Int.toNat s_0.1) (default:Claim)).litres - (if s_0.2.2< (s_0.2.1.getD (Int.toNat s_0.1) (default:Claim)).litres then s_0.2.2 else(s_0.2.1.getD (Int.toNat s_0.1) (default:Claim)).litres))),rank:=(s_0.2.1.getD (Int.toNat s_0.1) (default:Claim)).rank}:Claim)) s_0.1)) ({ right:=((s_0.2.1.set (Int.toNat s_0.1) ({ right:=(s_0.2.1.getD (Int.toNat s_0.1) (default:Claim)).right,farm:=(s_0.2.1.getD (Int.toNat s_0.1) (default:Claim)).farm,hour:=(s_0.2.1.getD (Int.toNat s_0.1) (default:Claim)).hour,litres:=(i64.wrap ((s_0.2.1.getD (Int.toNat s_0.1) (default:Claim)).litres - (if s_0.2.2< (s_0.2.1.getD (Int.toNat s_0.1) (default:Claim)).litres then s_0.2.2 else(s_0.2.1.getD (Int.toNat s_0.1) (default:Claim)).litres))),rank:=(s_0.2.1.getD (Int.toNat s_0.1) (default:Claim)).rank}:Claim)).getD (Int.toNat (ai (s_0.2.1.set (Int.toNat s_0.1) ({ right:=(s_0.2.1.getD (Int.toNat s_0.1) (default:Claim)).right,farm:=(s_0.2.1.getD (Int.toNat s_0.1) (default:Claim)).farm,hour:=(s_0.2.1.getD (Int.toNat s_0.1) (default:Claim)).hour,litres:=(i64.wrap ((s_0.2.1.getD (Int.toNat s_0.1) (default:Claim)).litres - (if s_0.2.2< (s_0.2.1.getD (Int.toNat s_0.1) (default:Claim)).litres then s_0.2.2 else(s_0.2.1.getD (Int.toNat s_0.1) (default:Claim)).litres))),rank:=(s_0.2.1.getD (Int.toNat s_0.1) (default:Claim)).rank}:Claim)) x (s_0.2.1.set (Int.toNat s_0.1) ({ right:=(s_0.2.1.getD (Int.toNat s_0.1) (default:Claim)).right,farm:=(s_0.2.1.getD (Int.toNat s_0.1) (default:Claim)).farm,hour:=(s_0.2.1.getD (Int.toNat s_0.1) (default:Claim)).hour,litres:=(i64.wrap ((s_0.2.1.getD (Int.toNat s_0.1) (default:Claim)).litres - (if s_0.2.2< (s_0.2.1.getD (Int.toNat s_0.1) (default:Claim)).litres then s_0.2.2 else(s_0.2.1.getD (Int.toNat s_0.1) (default:Claim)).litres))),rank:=(s_0.2.1.getD (Int.toNat s_0.1) (default:Claim)).rank}:Claim)) s_0.1)) (default:Claim)).right,farm:=((s_0.2.1.set (Int.toNat s_0.1) ({ right:=(s_0.2.1.getD (Int.toNat s_0.1) (default:Claim)).right,farm:=(s_0.2.1.getD (Int.toNat s_0.1) (default:Claim)).farm,hour:=(s_0.2.1.getD (Int.toNat s_0.1) (default:Claim)).hour,litres:=(i64.wrap ((s_0.2.1.getD (Int.toNat s_0.1) (default:Claim)).litres - (if s_0.2.2< (s_0.2.1.getD (Int.toNat s_0.1) (default:Claim)).litres then s_0.2.2 else(s_0.2.1.getD (Int.toNat s_0.1) (default:Claim)).litres))),rank:=(s_0.2.1.getD (Int.toNat s_0.1) (default:Claim)).rank}:Claim)).getD (Int.toNat (ai (s_0.2.1.set (Int.toNat s_0.1) ({ right:=(s_0.2.1.getD (Int.toNat s_0.1) (default:Claim)).right,farm:=(s_0.2.1.getD (Int.toNat s_0.1) (default:Claim)).farm,hour:=(s_0.2.1.getD (Int.toNat s_0.1) (default:Claim)).hour,litres:=(i64.wrap ((s_0.2.1.getD (Int.toNat s_0.1) (default:Claim)).litres - (if s_0.2.2< (s_0.2.1.getD (Int.toNat s_0.1) (default:Claim)).litres then s_0.2.2 else(s_0.2.1.getD (Int.toNat s_0.1) (default:Claim)).litres))),rank:=(s_0.2.1.getD (Int.toNat s_0.1) (default:Claim)).rank}:Claim)) x (s_0.2.1.set (Int.toNat s_0.1) ({ right:=(s_0.2.1.getD (Int.toNat s_0.1) (default:Claim)).right,farm:=(s_0.2.1.getD (Int.toNat s_0.1) (default:Claim)).farm,hour:=(s_0.2.1.getD (Int.toNat s_0.1) (default:Claim)).hour,litres:=(i64.wrap ((s_0.2.1.getD (Int.toNat s_0.1) (default:Claim)).litres - (if s_0.2.2< (s_0.2.1.getD (Int.toNat s_0.1) (default:Claim)).litres then s_0.2.2 else(s_0.2.1.getD (Int.toNat s_0.1) (default:Claim)).litres))),rank:=(s_0.2.1.getD (Int.toNat s_0.1) (default:Claim)).rank}:Claim)) s_0.1)) (default:Claim)).farm,hour:=((s_0.2.1.set (Int.toNat s_0.1) ({ right:=(s_0.2.1.getD (Int.toNat s_0.1) (default:Claim)).right,farm:=(s_0.2.1.getD (Int.toNat s_0.1) (default:Claim)).farm,hour:=(s_0.2.1.getD (Int.toNat s_0.1) (default:Claim)).hour,litres:=(i64.wrap ((s_0.2.1.getD (Int.toNat s_0.1) (default:Claim)).litres - (if s_0.2.2< (s_0.2.1.getD (Int.toNat s_0.1) (default:Claim)).litres then s_0.2.2 else(s_0.2.1.getD (Int.toNat s_0.1) (default:Claim)).litres))),rank:=(s_0.2.1.getD (Int.toNat s_0.1) (default:Claim)).rank}:Claim)).getD (Int.toNat (ai (s_0.2.1.set (Int.toNat s_0.1) ({ right:=(s_0.2.1.getD (Int.toNat s_0.1) (default:Claim)).right,farm:=(s_0.2.1.getD (Int.toNat s_0.1) (default:Claim)).farm,hour:=(s_0.2.1.getD (Int.toNat s_0.1) (default:Claim)).hour,litres:=(i64.wrap ((s_0.2.1.getD (Int.toNat s_0.1) (default:Claim)).litres - (if s_0.2.2< (s_0.2.1.getD (Int.toNat s_0.1) (default:Claim)).litres then s_0.2.2 else(s_0.2.1.getD (Int.toNat s_0.1) (default:Claim)).litres))),rank:=(s_0.2.1.getD (Int.toNat s_0.1) (default:Claim)).rank}:Claim)) x (s_0.2.1.set (Int.toNat s_0.1) ({ right:=(s_0.2.1.getD (Int.toNat s_0.1) (default:Claim)).right,farm:=(s_0.2.1.getD (Int.toNat s_0.1) (default:Claim)).farm,hour:=(s_0.2.1.getD (Int.toNat s_0.1) (default:Claim)).hour,litres:=(i64.wrap ((s_0.2.1.getD (Int.toNat s_0.1) (default:Claim)).litres - (if s_0.2.2< (s_0.2.1.getD (Int.toNat s_0.1) (default:Claim)).litres then s_0.2.2 else(s_0.2.1.getD (Int.toNat s_0.1) (default:Claim)).litres))),rank:=(s_0.2.1.getD (Int.toNat s_0.1) (default:Claim)).rank}:Claim)) s_0.1)) (default:Claim)).hour,litres:=(i64.wrap (((s_0.2.1.set (Int.toNat s_0.1) ({ right:=(s_0.2.1.getD (Int.toNat s_0.1) (default:Claim)).right,farm:=(s_0.2.1.getD (Int.toNat s_0.1) (default:Claim)).farm,hour:=(s_0.2.1.getD (Int.toNat s_0.1) (default:Claim)).hour,litres:=(i64.wrap ((s_0.2.1.getD (Int.toNat s_0.1) (default:Claim)).litres - (if s_0.2.2< (s_0.2.1.getD (Int.toNat s_0.1) (default:Claim)).litres then s_0.2.2 else(s_0.2.1.getD (Int.toNat s_0.1) (default:Claim)).litres))),rank:=(s_0.2.1.getD (Int.toNat s_0.1) (default:Claim)).rank}:Claim)).getD (Int.toNat (ai (s_0.2.1.set (Int.toNat s_0.1) ({ right:=(s_0.2.1.getD (Int.toNat s_0.1) (default:Claim)).right,farm:=(s_0.2.1.getD (Int.toNat s_0.1) (default:Claim)).farm,hour:=(s_0.2.1.getD (Int.toNat s_0.1) (default:Claim)).hour,litres:=(i64.wrap ((s_0.2.1.getD (Int.toNat s_0.1) (default:Claim)).litres - (if s_0.2.2< (s_0.2.1.getD (Int.toNat s_0.1) (default:Claim)).litres then s_0.2.2 else(s_0.2.1.getD (Int.toNat s_0.1) (default:Claim)).litres))),rank:=(s_0.2.1.getD (Int.toNat s_0.1) (default:Claim)).rank}:Claim)) x (s_0.2.1.set (Int.toNat s_0.1) ({ right:=(s_0.2.1.getD (Int.toNat s_0.1) (default:Claim)).right,farm:=(s_0.2.1.getD (Int.toNat s_0.1) (default:Claim)).farm,hour:=(s_0.2.1.getD (Int.toNat s_0.1) (default:Claim)).hour,litres:=(i64.wrap ((s_0.2.1.getD (Int.toNat s_0.1) (default:Claim)).litres - (if s_0.2.2< (s_0.2.1.getD (Int.toNat s_0.1) (default:Claim)).litres then s_0.2.2 else(s_0.2.1.getD (Int.toNat s_0.1) (default:Claim)).litres))),rank:=(s_0.2.1.getD (Int.toNat s_0.1) (default:Claim)).rank}:Claim)) s_0.1)) (default:Claim)).litres+(if s_0.2.2< (s_0.2.1.getD (Int.toNat s_0.1) (default:Claim)).litres then s_0.2.2 else(s_0.2.1.getD (Int.toNat s_0.1) (default:Claim)).litres))),rank:=((s_0.2.1.set (Int.toNat s_0.1) ({ right:=(s_0.2.1.getD (Int.toNat s_0.1) (default:Claim)).right,farm:=(s_0.2.1.getD (Int.toNat s_0.1) (default:Claim)).farm,hour:=(s_0.2.1.getD (Int.toNat s_0.1) (default:Claim)).hour,litres:=(i64.wrap ((s_0.2.1.getD (Int.toNat s_0.1) (default:Claim)).litres - (if s_0.2.2< (s_0.2.1.getD (Int.toNat s_0.1) (default:Claim)).litres then s_0.2.2 else(s_0.2.1.getD (Int.toNat s_0.1) (default:Claim)).litres))),rank:=(s_0.2.1.getD (Int.toNat s_0.1) (default:Claim)).rank}:Claim)).getD (Int.toNat (ai (s_0.2.1.set (Int.toNat s_0.1) ({ right:=(s_0.2.1.getD (Int.toNat s_0.1) (default:Claim)).right,farm:=(s_0.2.1.getD (Int.toNat s_0.1) (default:Claim)).farm,hour:=(s_0.2.1.getD (Int.toNat s_0.1) (default:Claim)).hour,litres:=(i64.wrap ((s_0.2.1.getD (Int.toNat s_0.1) (default:Claim)).litres - (if s_0.2.2< (s_0.2.1.getD (Int.toNat s_0.1) (default:Claim)).litres then s_0.2.2 else(s_0.2.1.getD (Int.toNat s_0.1) (default:Claim)).litres))),rank:=(s_0.2.1.getD (Int.toNat s_0.1) (default:Claim)).rank}:Claim)) x (s_0.2.1.set (Int.toNat s_0.1) ({ right:=(s_0.2.1.getD (Int.toNat s_0.1) (default:Claim)).right,farm:=(s_0.2.1.getD (Int.toNat s_0.1) (default:Claim)).farm,hour:=(s_0.2.1.getD (Int.toNat s_0.1) (default:Claim)).hour,litres:=(i64.wrap ((s_0.2.1.getD (Int.toNat s_0.1) (default:Claim)).litres - (if s_0.2.2< (s_0.2.1.getD (Int.toNat s_0.1) (default:Claim)).litres then s_0.2.2 else(s_0.2.1.getD (Int.toNat s_0.1) (default:Claim)).litres))),rank:=(s_0.2.1.getD (Int.toNat s_0.1) (default:Claim)).rank}:Claim)) s_0.1)) (default:Claim)).rank}:Claim)),(i64.wrap (s_0.2.2 - (if s_0.2.2< (s_0.2.1.getD (Int.toNat s_0.1) (default:Claim)).litres then s_0.2.2 else(s_0.2.1.getD (Int.toNat s_0.1) (default:Claim)).litres))))else .inr ((i64.wrap (s_0.1 - 1)),((s_0.2.1.set (Int.toNat s_0.1) ({ right:=(s_0.2.1.getD (Int.toNat s_0.1) (default:Claim)).right,farm:=(s_0.2.1.getD (Int.toNat s_0.1) (default:Claim)).farm,hour:=(s_0.2.1.getD (Int.toNat s_0.1) (default:Claim)).hour,litres:=(i64.wrap ((s_0.2.1.getD (Int.toNat s_0.1) (default:Claim)).litres - (if s_0.2.2< (s_0.2.1.getD (Int.toNat s_0.1) (default:Claim)).litres then s_0.2.2 else(s_0.2.1.getD (Int.toNat s_0.1) (default:Claim)).litres))),rank:=(s_0.2.1.getD (Int.toNat s_0.1) (default:Claim)).rank}:Claim))++([({ right:=((s_0.2.1.set (Int.toNat s_0.1) ({ right:=(s_0.2.1.getD (Int.toNat s_0.1) (default:Claim)).right,farm:=(s_0.2.1.getD (Int.toNat s_0.1) (default:Claim)).farm,hour:=(s_0.2.1.getD (Int.toNat s_0.1) (default:Claim)).hour,litres:=(i64.wrap ((s_0.2.1.getD (Int.toNat s_0.1) (default:Claim)).litres - (if s_0.2.2< (s_0.2.1.getD (Int.toNat s_0.1) (default:Claim)).litres then s_0.2.2 else(s_0.2.1.getD (Int.toNat s_0.1) (default:Claim)).litres))),rank:=(s_0.2.1.getD (Int.toNat s_0.1) (default:Claim)).rank}:Claim)).getD (Int.toNat s_0.1) (default:Claim)).right,farm:=x.other,hour:=((s_0.2.1.set (Int.toNat s_0.1) ({ right:=(s_0.2.1.getD (Int.toNat s_0.1) (default:Claim)).right,farm:=(s_0.2.1.getD (Int.toNat s_0.1) (default:Claim)).farm,hour:=(s_0.2.1.getD (Int.toNat s_0.1) (default:Claim)).hour,litres:=(i64.wrap ((s_0.2.1.getD (Int.toNat s_0.1) (default:Claim)).litres - (if s_0.2.2< (s_0.2.1.getD (Int.toNat s_0.1) (default:Claim)).litres then s_0.2.2 else(s_0.2.1.getD (Int.toNat s_0.1) (default:Claim)).litres))),rank:=(s_0.2.1.getD (Int.toNat s_0.1) (default:Claim)).rank}:Claim)).getD (Int.toNat s_0.1) (default:Claim)).hour,litres:=(if s_0.2.2< (s_0.2.1.getD (Int.toNat s_0.1) (default:Claim)).litres then s_0.2.2 else(s_0.2.1.getD (Int.toNat s_0.1) (default:Claim)).litres),rank:=((s_0.2.1.set (Int.toNat s_0.1) ({ right:=(s_0.2.1.getD (Int.toNat s_0.1) (default:Claim)).right,farm:=(s_0.2.1.getD (Int.toNat s_0.1) (default:Claim)).farm,hour:=(s_0.2.1.getD (Int.toNat s_0.1) (default:Claim)).hour,litres:=(i64.wrap ((s_0.2.1.getD (Int.toNat s_0.1) (default:Claim)).litres - (if s_0.2.2< (s_0.2.1.getD (Int.toNat s_0.1) (default:Claim)).litres then s_0.2.2 else(s_0.2.1.getD (Int.toNat s_0.1) (default:Claim)).litres))),rank:=(s_0.2.1.getD (Int.toNat s_0.1) (default:Claim)).rank}:Claim)).getD (Int.toNat s_0.1) (default:Claim)).rank}:Claim)])),(i64.wrap (s_0.2.2 - (if s_0.2.2< (s_0.2.1.getD (Int.toNat s_0.1) (default:Claim)).litres then s_0.2.2 else(s_0.2.1.getD (Int.toNat s_0.1) (default:Claim)).litres))))))else .inl s_0.2.1)
def bR (x:Judgement)(l_:List Claim)(k_0:Nat)(s_0:Int×List Claim×Int):Prop:=((decide (s_0.1≥0))=true→((0≤s_0.1∧s_0.1< (s_0.2.1.length:Int))∧(((s_0.2.1.getD (Int.toNat s_0.1) (default:Claim)).farm !=x.farm)=false→((0≤s_0.1∧s_0.1< (s_0.2.1.length:Int))∧((0≤s_0.1∧s_0.1< (s_0.2.1.length:Int))∧((0≤s_0.1∧s_0.1< (s_0.2.1.length:Int))∧((bH (s_0.2.1.set (Int.toNat s_0.1) ({ right:=(s_0.2.1.getD (Int.toNat s_0.1) (default:Claim)).right,farm:=(s_0.2.1.getD (Int.toNat s_0.1) (default:Claim)).farm,hour:=(s_0.2.1.getD (Int.toNat s_0.1) (default:Claim)).hour,litres:=(i64.wrap ((s_0.2.1.getD (Int.toNat s_0.1) (default:Claim)).litres - (if s_0.2.2< (s_0.2.1.getD (Int.toNat s_0.1) (default:Claim)).litres then s_0.2.2 else(s_0.2.1.getD (Int.toNat s_0.1) (default:Claim)).litres))),rank:=(s_0.2.1.getD (Int.toNat s_0.1) (default:Claim)).rank}:Claim)) x (s_0.2.1.set (Int.toNat s_0.1) ({ right:=(s_0.2.1.getD (Int.toNat s_0.1) (default:Claim)).right,farm:=(s_0.2.1.getD (Int.toNat s_0.1) (default:Claim)).farm,hour:=(s_0.2.1.getD (Int.toNat s_0.1) (default:Claim)).hour,litres:=(i64.wrap ((s_0.2.1.getD (Int.toNat s_0.1) (default:Claim)).litres - (if s_0.2.2< (s_0.2.1.getD (Int.toNat s_0.1) (default:Claim)).litres then s_0.2.2 else(s_0.2.1.getD (Int.toNat s_0.1) (default:Claim)).litres))),rank:=(s_0.2.1.getD (Int.toNat s_0.1) (default:Claim)).rank}:Claim)) s_0.1)∧(((decide ((ai (s_0.2.1.set (Int.toNat s_0.1) ({ right:=(s_0.2.1.getD (Int.toNat s_0.1) (default:Claim)).right,farm:=(s_0.2.1.getD (Int.toNat s_0.1) (default:Claim)).farm,hour:=(s_0.2.1.getD (Int.toNat s_0.1) (default:Claim)).hour,litres:=(i64.wrap ((s_0.2.1.getD (Int.toNat s_0.1) (default:Claim)).litres - (if s_0.2.2< (s_0.2.1.getD (Int.toNat s_0.1) (default:Claim)).litres then s_0.2.2 else(s_0.2.1.getD (Int.toNat s_0.1) (default:Claim)).litres))),rank:=(s_0.2.1.getD (Int.toNat s_0.1) (default:Claim)).rank}:Claim)) x (s_0.2.1.set (Int.toNat s_0.1) ({ right:=(s_0.2.1.getD (Int.toNat s_0.1) (default:Claim)).right,farm:=(s_0.2.1.getD (Int.toNat s_0.1) (default:Claim)).farm,hour:=(s_0.2.1.getD (Int.toNat s_0.1) (default:Claim)).hour,litres:=(i64.wrap ((s_0.2.1.getD (Int.toNat s_0.1) (default:Claim)).litres - (if s_0.2.2< (s_0.2.1.getD (Int.toNat s_0.1) (default:Claim)).litres then s_0.2.2 else(s_0.2.1.getD (Int.toNat s_0.1) (default:Claim)).litres))),rank:=(s_0.2.1.getD (Int.toNat s_0.1) (default:Claim)).rank}:Claim)) s_0.1)≥0))=true→((0≤(ai (s_0.2.1.set (Int.toNat s_0.1) ({ right:=(s_0.2.1.getD (Int.toNat s_0.1) (default:Claim)).right,farm:=(s_0.2.1.getD (Int.toNat s_0.1) (default:Claim)).farm,hour:=(s_0.2.1.getD (Int.toNat s_0.1) (default:Claim)).hour,litres:=(i64.wrap ((s_0.2.1.getD (Int.toNat s_0.1) (default:Claim)).litres - (if s_0.2.2< (s_0.2.1.getD (Int.toNat s_0.1) (default:Claim)).litres then s_0.2.2 else(s_0.2.1.getD (Int.toNat s_0.1) (default:Claim)).litres))),rank:=(s_0.2.1.getD (Int.toNat s_0.1) (default:Claim)).rank}:Claim)) x (s_0.2.1.set (Int.toNat s_0.1) ({ right:=(s_0.2.1.getD (Int.toNat s_0.1) (default:Claim)).right,farm:=(s_0.2.1.getD (Int.toNat s_0.1) (default:Claim)).farm,hour:=(s_0.2.1.getD (Int.toNat s_0.1) (default:Claim)).hour,litres:=(i64.wrap ((s_0.2.1.getD (Int.toNat s_0.1) (default:Claim)).litres - (if s_0.2.2< (s_0.2.1.getD (Int.toNat s_0.1) (default:Claim)).litres then s_0.2.2 else(s_0.2.1.getD (Int.toNat s_0.1) (default:Claim)).litres))),rank:=(s_0.2.1.getD (Int.toNat s_0.1) (default:Claim)).rank}:Claim)) s_0.1)∧(ai (s_0.2.1.set (Int.toNat s_0.1) ({ right:=(s_0.2.1.getD (Int.toNat s_0.1) (default:Claim)).right,farm:=(s_0.2.1.getD (Int.toNat s_0.1) (default:Claim)).farm,hour:=(s_0.2.1.getD (Int.toNat s_0.1) (default:Claim)).hour,litres:=(i64.wrap ((s_0.2.1.getD (Int.toNat s_0.1) (default:Claim)).litres - (if s_0.2.2< (s_0.2.1.getD (Int.toNat s_0.1) (default:Claim)).litres then s_0.2.2 else(s_0.2.1.getD (Int.toNat s_0.1) (default:Claim)).litres))),rank:=(s_0.2.1.getD (Int.toNat s_0.1) (default:Claim)).rank}:Claim)) x (s_0.2.1.set (Int.toNat s_0.1) ({ right:=(s_0.2.1.getD (Int.toNat s_0.1) (default:Claim)).right,farm:=(s_0.2.1.getD (Int.toNat s_0.1) (default:Claim)).farm,hour:=(s_0.2.1.getD (Int.toNat s_0.1) (default:Claim)).hour,litres:=(i64.wrap ((s_0.2.1.getD (Int.toNat s_0.1) (default:Claim)).litres - (if s_0.2.2< (s_0.2.1.getD (Int.toNat s_0.1) (default:Claim)).litres then s_0.2.2 else(s_0.2.1.getD (Int.toNat s_0.1) (default:Claim)).litres))),rank:=(s_0.2.1.getD (Int.toNat s_0.1) (default:Claim)).rank}:Claim)) s_0.1) < ((s_0.2.1.set (Int.toNat s_0.1) ({ right:=(s_0.2.1.getD (Int.toNat s_0.1) (default:Claim)).right,farm:=(s_0.2.1.getD (Int.toNat s_0.1) (default:Claim)).farm,hour:=(s_0.2.1.getD (Int.toNat s_0.1) (default:Claim)).hour,litres:=(i64.wrap ((s_0.2.1.getD (Int.toNat s_0.1) (default:Claim)).litres - (if s_0.2.2< (s_0.2.1.getD (Int.toNat s_0.1) (default:Claim)).litres then s_0.2.2 else(s_0.2.1.getD (Int.toNat s_0.1) (default:Claim)).litres))),rank:=(s_0.2.1.getD (Int.toNat s_0.1) (default:Claim)).rank}:Claim)).length:Int))∧(0≤(ai (s_0.2.1.set (Int.toNat s_0.1) ({ right:=(s_0.2.1.getD (Int.toNat s_0.1) (default:Claim)).right,farm:=(s_0.2.1.getD (Int.toNat s_0.1) (default:Claim)).farm,hour:=(s_0.2.1.getD (Int.toNat s_0.1) (default:Claim)).hour,litres:=(i64.wrap ((s_0.2.1.getD (Int.toNat s_0.1) (default:Claim)).litres - (if s_0.2.2< (s_0.2.1.getD (Int.toNat s_0.1) (default:Claim)).litres then s_0.2.2 else(s_0.2.1.getD (Int.toNat s_0.1) (default:Claim)).litres))),rank:=(s_0.2.1.getD (Int.toNat s_0.1) (default:Claim)).rank}:Claim)) x (s_0.2.1.set (Int.toNat s_0.1) ({ right:=(s_0.2.1.getD (Int.toNat s_0.1) (default:Claim)).right,farm:=(s_0.2.1.getD (Int.toNat s_0.1) (default:Claim)).farm,hour:=(s_0.2.1.getD (Int.toNat s_0.1) (default:Claim)).hour,litres:=(i64.wrap ((s_0.2.1.getD (Int.toNat s_0.1) (default:Claim)).litres - (if s_0.2.2< (s_0.2.1.getD (Int.toNat s_0.1) (default:Claim)).litres then s_0.2.2 else(s_0.2.1.getD (Int.toNat s_0.1) (default:Claim)).litres))),rank:=(s_0.2.1.getD (Int.toNat s_0.1) (default:Claim)).rank}:Claim)) s_0.1)∧(ai (s_0.2.1.set (Int.toNat s_0.1) ({ right:=(s_0.2.1.getD (Int.toNat s_0.1) (default:Claim)).right,farm:=(s_0.2.1.getD (Int.toNat s_0.1) (default:Claim)).farm,hour:=(s_0.2.1.getD (Int.toNat s_0.1) (default:Claim)).hour,litres:=(i64.wrap ((s_0.2.1.getD (Int.toNat s_0.1) (default:Claim)).litres - (if s_0.2.2< (s_0.2.1.getD (Int.toNat s_0.1) (default:Claim)).litres then s_0.2.2 else(s_0.2.1.getD (Int.toNat s_0.1) (default:Claim)).litres))),rank:=(s_0.2.1.getD (Int.toNat s_0.1) (default:Claim)).rank}:Claim)) x (s_0.2.1.set (Int.toNat s_0.1) ({ right:=(s_0.2.1.getD (Int.toNat s_0.1) (default:Claim)).right,farm:=(s_0.2.1.getD (Int.toNat s_0.1) (default:Claim)).farm,hour:=(s_0.2.1.getD (Int.toNat s_0.1) (default:Claim)).hour,litres:=(i64.wrap ((s_0.2.1.getD (Int.toNat s_0.1) (default:Claim)).litres - (if s_0.2.2< (s_0.2.1.getD (Int.toNat s_0.1) (default:Claim)).litres then s_0.2.2 else(s_0.2.1.getD (Int.toNat s_0.1) (default:Claim)).litres))),rank:=(s_0.2.1.getD (Int.toNat s_0.1) (default:Claim)).rank}:Claim)) s_0.1) < ((s_0.2.1.set (Int.toNat s_0.1) ({ right:=(s_0.2.1.getD (Int.toNat s_0.1) (default:Claim)).right,farm:=(s_0.2.1.getD (Int.toNat s_0.1) (default:Claim)).farm,hour:=(s_0.2.1.getD (Int.toNat s_0.1) (default:Claim)).hour,litres:=(i64.wrap ((s_0.2.1.getD (Int.toNat s_0.1) (default:Claim)).litres - (if s_0.2.2< (s_0.2.1.getD (Int.toNat s_0.1) (default:Claim)).litres then s_0.2.2 else(s_0.2.1.getD (Int.toNat s_0.1) (default:Claim)).litres))),rank:=(s_0.2.1.getD (Int.toNat s_0.1) (default:Claim)).rank}:Claim)).length:Int))))∧((decide ((ai (s_0.2.1.set (Int.toNat s_0.1) ({ right:=(s_0.2.1.getD (Int.toNat s_0.1) (default:Claim)).right,farm:=(s_0.2.1.getD (Int.toNat s_0.1) (default:Claim)).farm,hour:=(s_0.2.1.getD (Int.toNat s_0.1) (default:Claim)).hour,litres:=(i64.wrap ((s_0.2.1.getD (Int.toNat s_0.1) (default:Claim)).litres - (if s_0.2.2< (s_0.2.1.getD (Int.toNat s_0.1) (default:Claim)).litres then s_0.2.2 else(s_0.2.1.getD (Int.toNat s_0.1) (default:Claim)).litres))),rank:=(s_0.2.1.getD (Int.toNat s_0.1) (default:Claim)).rank}:Claim)) x (s_0.2.1.set (Int.toNat s_0.1) ({ right:=(s_0.2.1.getD (Int.toNat s_0.1) (default:Claim)).right,farm:=(s_0.2.1.getD (Int.toNat s_0.1) (default:Claim)).farm,hour:=(s_0.2.1.getD (Int.toNat s_0.1) (default:Claim)).hour,litres:=(i64.wrap ((s_0.2.1.getD (Int.toNat s_0.1) (default:Claim)).litres - (if s_0.2.2< (s_0.2.1.getD (Int.toNat s_0.1) (default:Claim)).litres then s_0.2.2 else(s_0.2.1.getD (Int.toNat s_0.1) (default:Claim)).litres))),rank:=(s_0.2.1.getD (Int.toNat s_0.1) (default:Claim)).rank}:Claim)) s_0.1)≥0))=false→((0≤s_0.1∧s_0.1< ((s_0.2.1.set (Int.toNat s_0.1) ({ right:=(s_0.2.1.getD (Int.toNat s_0.1) (default:Claim)).right,farm:=(s_0.2.1.getD (Int.toNat s_0.1) (default:Claim)).farm,hour:=(s_0.2.1.getD (Int.toNat s_0.1) (default:Claim)).hour,litres:=(i64.wrap ((s_0.2.1.getD (Int.toNat s_0.1) (default:Claim)).litres - (if s_0.2.2< (s_0.2.1.getD (Int.toNat s_0.1) (default:Claim)).litres then s_0.2.2 else(s_0.2.1.getD (Int.toNat s_0.1) (default:Claim)).litres))),rank:=(s_0.2.1.getD (Int.toNat s_0.1) (default:Claim)).rank}:Claim)).length:Int))∧(((s_0.2.1.set (Int.toNat s_0.1) ({ right:=(s_0.2.1.getD (Int.toNat s_0.1) (default:Claim)).right,farm:=(s_0.2.1.getD (Int.toNat s_0.1) (default:Claim)).farm,hour:=(s_0.2.1.getD (Int.toNat s_0.1) (default:Claim)).hour,litres:=(i64.wrap ((s_0.2.1.getD (Int.toNat s_0.1) (default:Claim)).litres - (if s_0.2.2< (s_0.2.1.getD (Int.toNat s_0.1) (default:Claim)).litres then s_0.2.2 else(s_0.2.1.getD (Int.toNat s_0.1) (default:Claim)).litres))),rank:=(s_0.2.1.getD (Int.toNat s_0.1) (default:Claim)).rank}:Claim))++([({ right:=((s_0.2.1.set (Int.toNat s_0.1) ({ right:=(s_0.2.1.getD (Int.toNat s_0.1) (default:Claim)).right,farm:=(s_0.2.1.getD (Int.toNat s_0.1) (default:Claim)).farm,hour:=(s_0.2.1.getD (Int.toNat s_0.1) (default:Claim)).hour,litres:=(i64.wrap ((s_0.2.1.getD (Int.toNat s_0.1) (default:Claim)).litres - (if s_0.2.2< (s_0.2.1.getD (Int.toNat s_0.1) (default:Claim)).litres then s_0.2.2 else(s_0.2.1.getD (Int.toNat s_0.1) (default:Claim)).litres))),rank:=(s_0.2.1.getD (Int.toNat s_0.1) (default:Claim)).rank}:Claim)).getD (Int.toNat s_0.1) (default:Claim)).right,farm:=x.other,hour:=((s_0.2.1.set (Int.toNat s_0.1) ({ right:=(s_0.2.1.getD (Int.toNat s_0.1) (default:Claim)).right,farm:=(s_0.2.1.getD (Int.toNat s_0.1) (default:Claim)).farm,hour:=(s_0.2.1.getD (Int.toNat s_0.1) (default:Claim)).hour,litres:=(i64.wrap ((s_0.2.1.getD (Int.toNat s_0.1) (default:Claim)).litres - (if s_0.2.2< (s_0.2.1.getD (Int.toNat s_0.1) (default:Claim)).litres then s_0.2.2 else(s_0.2.1.getD (Int.toNat s_0.1) (default:Claim)).litres))),rank:=(s_0.2.1.getD (Int.toNat s_0.1) (default:Claim)).rank}:Claim)).getD (Int.toNat s_0.1) (default:Claim)).hour,litres:=(if s_0.2.2< (s_0.2.1.getD (Int.toNat s_0.1) (default:Claim)).litres then s_0.2.2 else(s_0.2.1.getD (Int.toNat s_0.1) (default:Claim)).litres),rank:=((s_0.2.1.set (Int.toNat s_0.1) ({ right:=(s_0.2.1.getD (Int.toNat s_0.1) (default:Claim)).right,farm:=(s_0.2.1.getD (Int.toNat s_0.1) (default:Claim)).farm,hour:=(s_0.2.1.getD (Int.toNat s_0.1) (default:Claim)).hour,litres:=(i64.wrap ((s_0.2.1.getD (Int.toNat s_0.1) (default:Claim)).litres - (if s_0.2.2< (s_0.2.1.getD (Int.toNat s_0.1) (default:Claim)).litres then s_0.2.2 else(s_0.2.1.getD (Int.toNat s_0.1) (default:Claim)).litres))),rank:=(s_0.2.1.getD (Int.toNat s_0.1) (default:Claim)).rank}:Claim)).getD (Int.toNat s_0.1) (default:Claim)).rank}:Claim)])).length*40≤dq)))))))))))
def ca (x:Judgement)(l_:List Claim):List Claim:=(match aw (bp x l_) (l_.length+1) 0 ((i64.wrap ((l_.length:Int) - 1)),l_,x.n)with| .inl x_0_0=>x_0_0| .inr s_0=>default)
def cJ (x:Judgement)(l_:List Claim):Prop:=(l_.length≤aQ→(okI (bp x l_) (bR x l_) (l_.length+1) 0 ((i64.wrap ((l_.length:Int) - 1)),l_,x.n)∧(∀ z_,aw (bp x l_) (l_.length+1) 0 ((i64.wrap ((l_.length:Int) - 1)),l_,x.n)≠ .inr z_)))
noncomputable def jD:List SV→List Ob→Option HCon:=pL (fun x_:Judgement×(List Claim) =>[.os 0,.agg (cellsOf .judgement x_.1)]) (fun x_=>[.row .claim x_.2]) (fun x_=>i5 (cJ x_.1 x_.2) (.os 1) [.dead,.row .claim (ca x_.1 x_.2)])
@[go_sem] theorem BI (x:Judgement)(l_:List Claim):jD ([.os 0,.agg [.v (.int .i64 x.no),.v (.int .i64 x.hour),.v (.int .i64 x.kind),.v (.int .i64 x.farm),.v (.int .i64 x.other),.v (.int .i64 x.since),.v (.int .i64 x.to),.v (.int .i64 x.n),.v (.int .i64 x.of_)]]) ([.row .claim l_])=some (i5 (cJ x l_) (.os 1) [.dead,.row .claim (ca x l_)]):=mP (A:=fun x_:Judgement×(List Claim) =>[.os 0,.agg (cellsOf .judgement x_.1)]) (H:=fun x_=>[.row .claim x_.2]) (K:=fun x_=>i5 (cJ x_.1 x_.2) (.os 1) [.dead,.row .claim (ca x_.1 x_.2)]) (x:=(x,l_))
theorem zq43 {l0:List Nat}(a0:JL l0){p:Prop}(h:JL l0→p:=by intro ja;simp only[go_sem,Nat.reduceBEq,Nat.reduceLeDiff,Nat.reduceLT,decide_true,Nat.reduceAdd,Nat.reduceSub,Nat.reduceMul,Int.reduceLE,Int.reduceLT,Int.reduceToNat,Int.reduceNeg,reduceCtorEq,c5];all_goals exact kF ja):p:=h a0
theorem tn:FnOkO Tryz.prog 89 (jD):=by
 have hG:ConsOk Tryz.prog (mkG [(142,fun l=>c5 (bA [.sl .claim,.o] l))] []):=av (cgc (iU.norm [.sl .claim,.o]) cg0) cg0;refine oM mixed ap hG (fn:=Tryz.f89) (c:=ae Tryz.f89) kr kr kr kr fun l o con h=>?_;obtain⟨⟨x,l_⟩,rfl,rfl,rfl⟩:=ke h;clear h;try dsimp only
 refine⟨_,_,_,rfl,fun hp=>?_⟩;unfold cJ at hp;refine⟨nbl rfl,(fun id st=>bif Nat.beq id 0 then some (LCV (ρ:=(List Claim)) (σ:=(Int×List Claim×Int)) 4 [] [0,1,2,3,3,0] (fun k_0 s_0=>⟨[(2,.ptr 1 0),(3,.ptr 2 0),(5,.v (.int .i64 s_0.2.2)),(6,.ptr 4 0)],[.dead,.cells [.os 5],.cells (cellsOf .judgement x),.dead,.cells [.v (.int .i64 s_0.1)],.row .claim s_0.2.1]⟩) (bp x l_) (bR x l_) (l_.length+1) ((i64.wrap ((l_.length:Int) - 1)),l_,x.n) (fun _=>.normal) (fun x_0_0=>⟨[(2,.ptr 1 0)],[.dead,.cells [.os 5],.dead,.dead,.dead,.row .claim x_0_0]⟩) st)else none),?_,?_⟩
 ·unfold ae Tryz.f89;simp only[aq,true_and,and_true,and_assoc]
  ·refine tT mixed ap hG kr (fun _=>rfl) fun k_0 s_0 hq0=>⟨L0,ah _,?_⟩
   ·unfold bR at hq0;exact M6 (jl [0,1,2,3,6,5]) (jl [0,1,2,3,9,8]) (jl [0,1,2,3,4,5])
 ·unfold ae Tryz.f89;try unfold ca
  exact zq43 (jl [0,5])
end Go.Sx
end
section
namespace Go.Sx
def Te {α:Type}:Result α→World
 | .ok _ w=>w
 | .halt _ w=>w
theorem HV {α:Type}:∀ (a:Ask α) (w:World),w.drawn≤(w.ask a).2.drawn
 | .done a,w=>Nat.le_refl _
 | .ask what range k,w=>by
  unfold World.ask;dsimp only;split
  ·exact HV _ w
  ·exact Nat.le_trans (Nat.le_succ _) (HV _ { w with drawn:=w.drawn+1})
theorem Tf (w:World)(c:Sys):w.drawn≤(w.sys c).2.drawn:=by
 unfold World.sys;have:=HV (Kernel.perform c w.os) w;split
 ·exact Nat.le_refl _
 ·rename_i h;rw[h]at this;exact this
theorem F0 {p:Program}{w w':World}{a:Addr}{v:Value}{b:Bool}{l:List Addr}(h:w.farStore p a v b=.ok (w',l)):w'.drawn=w.drawn:=by
 unfold World.farStore at h;split at h
 ·split at h
  ·rename_i r hr;cases h;unfold World.viewStore at hr;simp only[bind,Except.bind,pure,Except.pure]at hr
   repeat' split at hr
   all_goals (first|(cases hr;done) |skip)
   all_goals (cases hr;rfl)
  ·cases h
 ·cases h
theorem Ek {α:Type}(p:Program):∀ (s:Sem α) (w:World),w.drawn≤(Te (s.run p w)).drawn:=by
 intro s;induction s with
 |pure a=>intro w;exact Nat.le_refl _
 |load m a k ih=>
  intro w;unfold Sem.run;split
  ·exact ih _ w
  ·split
   ·exact ih _ w
   ·exact Nat.le_refl _
 |store m a v k ih=>
  intro w;cases v
  case agg=>exact Nat.le_refl _
  case tuple=>exact Nat.le_refl _
  all_goals
   simp only[Sem.run];split
   ·split
    ·exact Nat.le_refl _
    ·exact ih (w.setCell a _)
   ·split
    ·rename_i h;rw[←F0 h];exact ih _
    ·exact Nat.le_refl _
 |new o k ih=>intro w;exact ih w.heap.size { w with heap:=w.heap.push o}
 |shape r k ih=>intro w;exact ih _ _
 |freeze a n k ih=>
  intro w;have:(w.freeze a n).drawn=w.drawn:=by unfold World.freeze;split <;>rfl
  rw[←this];exact ih _
 |frozen a k ih=>intro w;exact ih _ _
 |getObj r k ih=>
  intro w;unfold Sem.run;split
  ·exact Nat.le_refl _
  ·exact ih _ _
  ·exact Nat.le_refl _
 |setObj r o k ih=>
  intro w;unfold Sem.run;split
  ·exact Nat.le_refl _
  ·exact ih { w with heap:=w.heap.setIfInBounds r o}
  ·exact Nat.le_refl _
 |choose q k ih=>
  intro w;unfold Sem.run;split
  ·exact ih _ _
  ·exact Nat.le_trans (Nat.le_succ _) (ih _ { w with drawn:=w.drawn+1})
 |sys c k ih=>intro w;exact Nat.le_trans (Tf w c) (ih _ _)
 |program k ih=>intro w;exact ih _ _
 |mark m k ih=>intro w;exact ih _
 |halt h=>intro w;exact Nat.le_refl _
theorem M7 {α:Type}(p:Program):∀ (s:Sem α) (w:World) (es:Array Event),(s.runT p w es).1=s.run p w:=by
 intro s;induction s with
 |store m a v k ih=>
  intro w es;cases v
  case agg=>rfl
  case tuple=>rfl
  all_goals
   simp only[Sem.runT,Sem.run];split
   ·split
    ·rfl
    ·exact ih _ _
   ·split
    ·exact ih _ _
    ·rfl
 |load m a k ih=>
  intro w es;simp only[Sem.runT,Sem.run];split
  ·exact ih _ _ _
  ·split
   ·exact ih _ _ _
   ·rfl
 |getObj r k ih=>
  intro w es;simp only[Sem.runT,Sem.run];split
  ·rfl
  ·exact ih _ _ _
  ·rfl
 |setObj r o k ih=>
  intro w es;simp only[Sem.runT,Sem.run];split
  ·rfl
  ·exact ih _ _
  ·rfl
 |choose q k ih=>
  intro w es;simp only[Sem.runT,Sem.run];split
  ·exact ih _ _ _
  ·exact ih _ _ _
 |pure a=>intro w es;rfl
 |new o k ih=>intro w es;exact ih _ _ _
 |shape r k ih=>intro w es;exact ih _ _ _
 |freeze a n k ih=>intro w es;exact ih _ _
 |frozen a k ih=>intro w es;exact ih _ _ _
 |sys c k ih=>intro w es;exact ih _ _ _
 |program k ih=>intro w es;exact ih _ _ _
 |mark m k ih=>intro w es;exact ih _ _
 |halt h=>intro w es;rfl
theorem l9 {α:Type}{p:Program}{s:Sem α}{w w':World}{a:α}(h:s.run p w=.ok a w'):w.drawn≤w'.drawn:=by have:=Ek p s w;rw[h]at this;exact this
theorem M8 {α:Type}{p:Program}{s:Sem α}{w w':World}{a:Halt}(h:s.run p w=.halt a w'):w.drawn≤w'.drawn:=by have:=Ek p s w;rw[h]at this;exact this
theorem rA {α:Type}{p:Program}{s:Sem α}{w:World}{es es':Array Event}{r:Result α}(h:s.runT p w es=(r,es')):w.drawn≤(Te r).drawn:=by
 have:=M7 p s w es;rw[h]at this;have h2:=Ek p s w;rw[←this]at h2;exact h2
def gLe (w:World):GStep→Prop
 | .ended .. =>True
 | .go _ w' _| .comm _ _ _ _ w' _| .spawn _ _ w' _| .count _ w' _| .timer _ _ w' _| .alone _ _ w' _| .newcoro _ _ _ w' _| .coroswitch _ _ _ w' _| .collect _ w' _| .watch _ w' _=>w.drawn≤w'.drawn
theorem gLe.after {w:World}{es:Array Event}{s:GStep}(h:gLe w s):gLe w (s.after es):=by cases s <;>exact h
theorem gLe.trans {w w':World}{s:GStep}(h1:w.drawn≤w'.drawn)(h:gLe w' s):gLe w s:=by cases s <;>first|trivial|exact Nat.le_trans h1 h
theorem yj {c:Prop}[Decidable c]{w:World}{a b:GStep}(h1:gLe w a)(h2:gLe w b):gLe w (if c then a else b):=by split <;>assumption
theorem sU (fr:Frame)(m:String)(w:World):gLe w (endThrow fr m w):=Nat.le_refl _
theorem wa (p:Program)(fr:Frame)(v:Value)(w:World):gLe w (endPrinting p fr v w):=by
 unfold endPrinting;dsimp only;split
 ·exact sU _ _ _
 ·trivial
theorem zD (p:Program)(fr:Frame)(callers:List Frame)(dying:Option Dying)(m:String)(w:World):gLe w (endFatal p fr callers dying m w):=by
 unfold endFatal
 extract_lets
 split
 ·rename_i h;exact l9 h
 ·trivial
 ·trivial
theorem HW (p:Program)(fr:Frame)(d:Dying)(f:Fatal)(w:World):gLe w (writeOn p fr d f w):=by
 unfold writeOn
 extract_lets
 split
 ·trivial
 ·extract_lets
  generalize h:Sem.runT _ _ _ _=rr;obtain⟨r,es⟩:=rr;have h:=rA h;split
  ·rename_i e;cases e;exact h
  ·rename_i e;cases e;exact h
  ·trivial
  ·trivial
theorem HX (w w':World)(fd:Nat)(t:ByteArray)(o:Outcome):gLe w (endWith w' fd t o):=by
 unfold endWith
 extract_lets
 split
 ·split <;>trivial
 ·trivial
 ·trivial
theorem Tg (p:Program)(fr:Frame)(d:Dying)(w:World):gLe w (die p fr d w):=by
 unfold die;split
 ·exact HW _ _ _ _ _
 ·split
  ·split
   ·exact Nat.le_refl _
   ·exact HX _ _ _ _ _
  ·extract_lets
   split
   ·exact Nat.le_refl _
   ·split
    ·rename_i h;exact l9 h
    ·trivial
   ·split
    rename_i h;have h:=rA h;refine gLe.after ?_;split
    all_goals first|exact h|trivial|exact gLe.trans h (wa _ _ _ _)
   ·trivial
theorem wb (p:Program)(main:Bool)(fr:Frame)(callers:List Frame)(dying:Option Dying)(v:Value)(w:World):gLe w (doReturn p main fr callers dying v w):=by
 unfold doReturn;split
 ·split
  all_goals exact Nat.le_refl _
 ·split
  ·exact Nat.le_refl _
  ·trivial
  ·split
   ·exact Nat.le_refl _
   ·split
    ·exact Nat.le_refl _
    ·trivial
theorem zY (p:Program)(fr:Frame)(callers:List Frame)(dying:Option Dying)(d:Deferred)(w:World):gLe w (callDeferred p fr callers dying d w):=by
 unfold callDeferred;refine yj trivial ?_;rcases h:(invoke d.target d.args).runT p w #[]with⟨r,es⟩;have h:=rA h;dsimp only;refine gLe.after ?_;split
 all_goals first|exact h|trivial|exact gLe.trans h (zD _ _ _ _ _ _) |exact gLe.trans h (sU _ _ _) |skip
 split <;>exact h
theorem KA (p:Program)(main:Bool)(fr:Frame)(callers:List Frame)(dying:Option Dying)(w:World):gLe w (unwind p main fr callers dying w):=by
 unfold unwind;split
 ·split
  rename_i h;have h:=rA h;refine gLe.after ?_;split
  ·exact h
  ·trivial
 ·exact zY _ _ _ _ _ _
 ·split
  ·trivial
  ·split
   ·trivial
   ·split
    ·exact Nat.le_refl _
    ·split
     ·split
      ·exact Nat.le_refl _
      ·split
       ·rename_i h;exact l9 h
       ·trivial
       ·trivial
     ·split
      ·exact wa _ _ _ _
      ·trivial
  ·split
   ·exact wb _ _ _ _ _ _ _
   ·split
    rename_i h;have h:=rA h;refine gLe.after ?_;split
    ·exact gLe.trans h (wb _ _ _ _ _ _ _)
    ·trivial
    ·trivial
theorem M9 (p:Program)(fr:Frame)(callers:List Frame)(dying:Option Dying)(g:Nat)(w:World):gLe w (early p fr callers dying g w):=by
 unfold early
 extract_lets refuse notYet there
 have hn:∀ w0:World,w.drawn≤w0.drawn→gLe w (notYet w0):=fun w0 h0=>by
  show gLe w (match w0.heap[g]? with|some (.pending c elem) =>_|_=>_);split
  ·exact h0
  ·trivial
 split
 ·exact hn w (Nat.le_refl _)
 ·split
  ·trivial
  ·extract_lets there
   have ht:∀ w0:World,w.drawn≤w0.drawn→gLe w (there w0):=fun w0 h0=>h0;split
   ·exact hn w (Nat.le_refl _)
   ·split
    ·exact hn w (Nat.le_refl _)
    ·split
     ·trivial
     ·exact ht w (Nat.le_refl _)
     ·trivial
     ·exact hn w (Nat.le_refl _)
     ·split
      ·exact ht w (Nat.le_refl _)
      ·split
       ·exact hn w (Nat.le_refl _)
       ·split
        ·rename_i h;exact hn _ (l9 h)
        ·rename_i h;exact ht _ (l9 h)
        ·trivial
theorem wc (p:Program)(listen:Bool)(fr:Frame)(callers:List Frame)(dying:Option Dying)(s:Sem Next)(w:World):gLe w (Go.stepG.apply p listen fr callers dying s w):=by
 unfold Go.stepG.apply
 extract_lets go kind
 have hr:∃ r es,(if listen=true then s.runT p w #[]else(s.run p w,#[]))=(r,es)∧w.drawn≤(Te r).drawn:=by
  split
  ·rcases h:s.runT p w #[]with⟨r,es⟩;exact⟨r,es,rfl,rA h⟩
  ·exact⟨_,_,rfl,Ek p s w⟩
 obtain⟨r,es,he,h⟩:=hr;rw[he];dsimp only;refine gLe.after ?_;have hgo:∀ fr w0,w.drawn≤w0.drawn→gLe w (go fr w0):=fun fr w0 h0=>h0;split
 all_goals first|exact h|trivial|exact hgo _ _ h|exact gLe.trans h (zD _ _ _ _ _ _) |exact gLe.trans h (sU _ _ _) |exact gLe.trans h (M9 _ _ _ _ _ _) |skip
 all_goals first|(refine yj (gLe.trans h (sU _ _ _)) ?_;exact h) |(split <;>first|exact h|trivial|exact hgo _ _ h)
theorem P6 (p:Program)(listen:Bool)(fr:Frame)(callers:List Frame)(dying:Option Dying)(w:World):gLe w (Go.stepG.oper p listen fr callers dying w):=by
 unfold Go.stepG.oper;split
 ·trivial
 ·split
  ·exact wc _ _ _ _ _ _ _
  ·exact wc _ _ _ _ _ _ _
theorem Jd {α:Type}{w:World}{o:Option α}{a:GStep}{f:α→GStep}(h1:gLe w a)(h2:∀ x,gLe w (f x)):gLe w (o.elim a f):=by cases o;exact h1;exact h2 _
theorem P7 (p:Program)(main listen:Bool)(fr:Frame)(callers:List Frame)(dying:Option Dying)(w:World):gLe w (Go.stepG.exec p main listen fr callers dying w):=by
 unfold Go.stepG.exec
 extract_lets go to lost leave
 have hgo:∀ fr w0,w.drawn≤w0.drawn→gLe w (go fr w0):=fun fr w0 h0=>h0;have hto:∀ k,gLe w (to k):=fun k=>Nat.le_refl _;have hlost:∀ m,gLe w (lost m):=fun _=>trivial;have hleave:∀ j,gLe w (leave j):=fun j=>by
  show gLe w (match fr.roundOf with|none=>_|some l=>_);split
  ·refine yj (hgo _ _ (Nat.le_refl _)) trivial
  ·rcases h:(Instr.endRound _ j).runT p w #[]with⟨r,es⟩;have h:=rA h;dsimp only;refine gLe.after ?_;split
   ·exact gLe.trans h (wb _ _ _ _ _ _ _)
   ·trivial
 have hgo1:∀ fr,gLe w (go fr w):=fun fr=>Nat.le_refl _
 clear_value to lost leave
 split
 all_goals first|exact hleave _|exact hto _|exact hlost _|trivial|exact Jd (hleave _) hto|exact wc _ _ _ _ _ _ _|exact Jd (hlost _) (fun _=>wc _ _ _ _ _ _ _) |skip
 ·split
  ·exact hto _
  ·exact hlost _
 ·rcases h:(Instr.enterLoop fr.fn fr.tmps _ _ _ fr.roundOf).runT p w #[]with⟨r,es⟩;have h:=rA h;dsimp only;refine gLe.after ?_;split
  ·exact gLe.trans h (wc _ _ _ _ _ _ _)
  ·trivial
 ·rcases h:(Instr.endLoop _).runT p w #[]with⟨r,es⟩;have h:=rA h;dsimp only;refine gLe.after ?_;split
  ·exact hgo _ _ h
  ·exact hgo _ _ h
  ·trivial
 ·refine yj (hto _) ?_;split
  ·rename_i h;exact hgo _ _ (l9 h)
  ·trivial
 ·exact yj (P6 _ _ _ _ _ _) (hgo1 _)
theorem M_ (p:Program)(main:Bool)(g:Goroutine)(w:World)(listen:Bool):gLe w (Go.stepG p main g w listen):=by
 unfold Go.stepG;obtain⟨fr,callers,st,dying,off⟩:=g;dsimp only;split
 ·exact Tg _ _ _ _
 ·exact P7 _ _ _ _ _ _ _
 ·exact KA _ _ _ _ _ _
def sLe (w:World):Stepped→Prop
 | .next m=>w.drawn≤m.world.drawn
 | .ended .. =>True
theorem sLe.trans {w w':World}{s:Stepped}(h1:w.drawn≤w'.drawn)(h:sLe w' s):sLe w s:=by cases s <;>first|trivial|exact Nat.le_trans h1 h
theorem Je {c:Prop}[Decidable c]{w:World}{a b:Stepped}(h1:sLe w a)(h2:sLe w b):sLe w (if c then a else b):=by split <;>assumption
theorem Jf (p:Program)(gs:Array Goroutine)(rest:Rest)(w:World):sLe w (look p gs rest w):=by
 unfold look;split
 ·extract_lets
  refine Je trivial ?_;split
  ·trivial
  ·extract_lets
   split
   ·rename_i h;have h:=l9 h;exact h
   ·trivial
   ·trivial
 ·trivial
theorem El {rest:Rest}{cases:Array CommCase}{w w':World}(h:waitingAt rest cases w=some w'):w.drawn≤w'.drawn:=by
 unfold waitingAt at h;split at h
 ·split at h
  ·cases h;exact Nat.le_refl _
  ·cases h
 ·cases h;exact Nat.le_refl _
theorem BJ (p:Program)(rest:Rest)(gs:Array Goroutine)(i:Nat)(g:Goroutine)(cases:Array CommCase)(bl:Bool)(shape:CommShape)(w:World):sLe w (communicate p rest gs i g cases bl shape w).1:=by
 unfold communicate
 extract_lets put illMade me other
 have hput:∀ g gs w0 ops,w.drawn≤w0.drawn→sLe w (put g gs w0 ops).1:=fun _ _ _ _ h=>h;split
 ·trivial
 ·split
  ·split
   ·split
    ·rename_i h;exact El h
    ·trivial
   ·exact hput _ _ _ _ (Nat.le_refl _)
  ·split
   ·trivial
   ·rename_i h;have hw:=l9 h;clear h
    extract_lets r
    split
    ·split
     ·rename_i h2;exact hput _ _ _ _ (Nat.le_trans hw (M8 h2))
     ·trivial
    ·exact hput _ _ _ _ hw
    ·exact hput _ _ _ _ hw
    ·extract_lets
     split
     ·exact hput _ _ _ _ hw
     ·split
      ·rename_i h2;have h3:=l9 h2;exact hput _ _ _ _ (Nat.le_trans hw h3)
      ·trivial
    ·exact hput _ _ _ _ hw
    ·exact hput _ _ _ _ hw
    ·trivial
theorem Db (m:Machine)(k:Nat)(t:Timer)(a b:Nat):m.world.drawn≤(retime m k t a b).2.world.drawn:=by
 unfold retime drain;dsimp only
 repeat' split
 all_goals first|exact Nat.le_refl _|skip
 all_goals (simp_all;try omega)
theorem HY {m m':Machine}{op:TimerOp}{v:Value}(h:timerOp m op=.ok (v,m')):m.world.drawn≤m'.world.drawn:=by
 have named:∀ (D:Nat) (m0:Machine) var f,(∀ k t,D≤(f k t).2.world.drawn)→timerOp.named m0 var f=.ok (v,m')→D≤m'.world.drawn:=fun D m0 var f hf h=>by
  unfold timerOp.named at h;split at h
  ·injection h with h;exact Nat.le_trans (hf _ _) (Nat.le_of_eq (congrArg (fun x:Value×Machine=>x.2.world.drawn) h))
  ·cases h
 unfold timerOp at h;split at h
 ·split at h
  ·cases h;exact Nat.le_refl _
  ·split at h
   ·split at h
    ·cases h
    ·cases h;exact Nat.le_refl _
   ·cases h
 ·exact named _ _ _ _ (fun k t=>Db _ _ _ _ _) h
 ·split at h
  ·rename_i m1 ho;have h1:m.world.drawn≤m1.world.drawn:=by
    unfold timerOp.opened at ho;split at ho
    ·split at ho
     ·cases ho;exact Nat.le_refl _
     ·cases ho
    ·cases ho;exact Nat.le_refl _
   exact Nat.le_trans h1 (named m1.world.drawn _ _ _ (fun k t=>Db _ _ _ _ _) h)
  ·cases h
 ·cases h;exact Nat.le_refl _
theorem Na (p:Program)(m:Machine)(i:Nat)(listen:Bool):sLe m.world (Go.runT p m i listen).1:=by
 unfold Go.runT
 extract_lets rest world
 split
 extract_lets wake fn pos s ops done
 have hs:gLe m.world s:=M_ _ _ _ _ _;have hd:∀ r,(done r).1=r:=fun r=>rfl
 clear_value s done
 split
 all_goals try rw[hd]
 ·trivial
 ·split
  rename_i h;have:=BJ p rest ‹_› i ‹_› ‹_› ‹_› ‹_› ‹_›;rw[h]at this;exact sLe.trans hs this
 ·exact hs
 ·exact hs
 ·exact Je trivial hs
 ·exact hs
 ·exact sLe.trans hs (Jf _ _ _ _)
 ·exact hs
 ·exact hs
 ·split
  ·exact hs
  ·split
   ·rename_i h;simp only[endThrow,dieOf]at h;cases h;exact hs
   ·trivial
  ·trivial
 ·split
  ·rename_i h;exact Nat.le_trans hs (HY h)
  ·exact hs
  ·trivial
  ·trivial
theorem Nb (p:Program)(m:Machine)(k:Nat):sLe m.world (serve p m k):=by
 unfold serve;split
 ·trivial
 ·exact Nat.le_refl _
 ·extract_lets
  split
  ·trivial
  ·exact Nat.le_refl _
def mLe (w:World):Move→Prop
 | .goroutine m _=>w.drawn≤m.world.drawn
 | .machine s _=>sLe w s
theorem mLe.trans {w w':World}{s:Move}(h1:w.drawn≤w'.drawn)(h:mLe w' s):mLe w s:=by
 cases s
 ·exact Nat.le_trans h1 h
 ·exact sLe.trans h1 h
theorem BK (p:Program)(m:Machine):mLe m.world (askOn p m):=by
 unfold askOn
 extract_lets mono rs ds pick
 have hpick:∀ m0:Machine,m.world.drawn≤m0.world.drawn→mLe m.world (pick m0):=fun m0 h0=>by
  show mLe m.world (match (choose (.sched rs.length)).run p m0.world with| .halt _ w=>_| .ok k world=>_);split
  ·trivial
  ·rename_i h;have h1:=l9 h;split
   ·exact Nat.le_trans h0 h1
   ·split
    ·trivial
    ·rename_i h2;have h2:=l9 h2;exact Nat.le_trans h0 (Nat.le_trans h1 h2)
 clear_value pick rs ds
 split
 ·trivial
 ·rename_i h;have hw:=l9 h;clear h
  extract_lets m1
  split
  ·exact sLe.trans hw (Nb p _ _)
  ·cases rs with
   |nil=>
    dsimp only;split
    ·exact hw
    ·split
     ·exact hw
     ·split <;>trivial
   |cons r rs=>
    dsimp only;split
    ·exact hpick _ hw
    ·split
     ·trivial
     ·rename_i h;have h2:=l9 h;exact hpick _ (Nat.le_trans hw h2)
     ·rename_i h;have h2:=l9 h;exact Nat.le_trans hw h2
     ·rename_i h;have h2:=l9 h;exact hpick _ (Nat.le_trans hw h2)
theorem F4 (p:Program)(m:Machine):mLe m.world (ask p m):=by
 unfold ask;split
 ·split
  ·trivial
  ·rename_i h;have hw:=l9 h;have:=Jf p m.gs m.rest ‹World›;split
   ·rename_i m2 h2;rw[h2]at this;exact mLe.trans (Nat.le_trans hw this) (BK p _)
   ·rename_i e h2;exact sLe.trans hw this
  ·rename_i h;have hw:=l9 h;exact mLe.trans hw (BK p _)
 ·exact BK p m
theorem P8 (p:Program)(m:Machine):mLe m.world (move p m):=by
 unfold move;split
 ·split
  ·exact Nat.le_refl _
  ·trivial
 ·split
  ·split
   ·exact Nat.le_refl _
   ·exact F4 p _
  ·exact F4 p m
theorem P9 (p:Program)(m:Machine):sLe m.world (step p m):=by
 unfold step stepT;have:=P8 p m;split
 ·rename_i h;rw[h]at this;exact sLe.trans this (Na p _ _ _)
 ·rename_i h;rw[h]at this;exact this
theorem F5 {p:Program}{m m':Machine}(h:Steps p m m'):m.world.drawn≤m'.world.drawn:=by
 obtain⟨n,hn⟩:=h;induction n generalizing m with
 |zero=>simp only[runN,Stepped.next.injEq]at hn;subst hn;exact Nat.le_refl _
 |succ n ih=>
  simp only[runN]at hn;have:=P9 p m;cases hs:step p m with
  |next m1=>
   rw[hs]at hn this;exact Nat.le_trans this (ih hn)
  |ended o w=>rw[hs]at hn;cases hn
theorem F6 {P:Program}{f:FuncId}{args:Array Value}{w:World}{R:Ending→World→Prop}(h:Calls P f args w R):Calls P f args w fun e w'=>R e w'∧(e≠ .outgrown→w.drawn≤w'.drawn):=by
 intro cs;obtain⟨e,w',fr,hr,hc,hf,hl⟩:=h cs;refine⟨e,w',fr,⟨hr,fun hne=>?_⟩,hc,hf,hl⟩;cases e with
 |returned v=>exact F5 (p:=P) hc
 |panicked c=>exact F5 (p:=P) hc
 |outgrown=>exact absurd rfl hne
end Go.Sx
end
section
namespace Go.Sx
open Go.Lib Go.Proofs Go.RowKit Go.Shelf Go.Sort
def Xr:SV→Value
 | .v x=>x
 |_=>undef
def rB (k:Tag)(x:k.T):List Value:=(cellsOf k x).map Xr
def Em (k:Tag):Prop:= ∀ (x:k.T) (s:SV),s∈cellsOf k x→∃ v,s=.v v∧v.oneCell'=true
def srt {α:Type}(cf:α→α→Int)(l:List α):List α:=l.mergeSort fun x y=>!(ltOf cf y x)
def apart {α:Type}(cf:α→α→Int)(l:List α):Prop:= ∀ x∈l,∀ y∈l,ltOf cf x y=false→ltOf cf y x=false→x=y
theorem HZ {α:Type}[Inhabited α]{cf:α→α→Int}(hO:SWO (ltOf cf)){l:List α}(h:apart cf l){d':Array α}(hp:PermIn 0 l.toArray.size l.toArray d')(hs:SortedIn (ltOf cf) 0 l.toArray.size d'):d'=(srt cf l).toArray:=by
 obtain⟨hsz,_,hperm⟩:=hp;have e1:d'.extract 0 l.toArray.size=d':=by rw[←hsz];exact Array.extract_size
 rw[e1,Array.extract_size]at hperm;have hperm:d'.toList.Perm l:=by simpa using hperm
 have:d'.toList=srt cf l:=by
  refine List.Perm.eq_of_pairwise (le:=fun x y=>(!ltOf cf y x)=true) ?_ ?_ ?_ (hperm.trans (List.mergeSort_perm _ _).symm)
  ·intro a b ha hb h1 h2;simp only[Bool.not_eq_true']at h1 h2;exact h a (hperm.subset ha) b ((List.mergeSort_perm _ _).subset hb) h2 h1
  ·rw[List.pairwise_iff_getElem];intro i j hi hj hij;have:=hs i j (Nat.zero_le _) hij (by simp only[List.size_toArray]at hsz ⊢;simp only[Array.length_toList]at hj;omega);simp only[Array.length_toList]at hi hj;rw[getElem!_pos d' i hi,getElem!_pos d' j hj]at this;simpa using this
  ·refine List.pairwise_mergeSort (fun a b c h1 h2=>?_) (fun a b=>?_) l
   ·simp only[Bool.not_eq_true']at h1 h2 ⊢;exact hO.ntrans c b a h2 h1
   ·simp only[Bool.or_eq_true,Bool.not_eq_true'];cases h1:ltOf cf b a with
    |false=>exact .inl rfl
    |true=>
     right;cases h2:ltOf cf a b with
     |false=>rfl
     |true=>
      have h3:=hO.trans a b a h2 h1;rw[hO.irrefl]at h3;cases h3
 rw[←this]
section
variable {P:Program}{ρ:Ren}{F:Nat→Prop}{own:Own}{w:World}{k:Tag}
theorem KB (hk:Em k){l:List k.T}{o:Nat}{cs:Array Value}(h:RowAt F own w k l o cs){i j:Nat}(hi:i<l.length)(hj:j<aa k):cs[o+i*aa k+j]? =(rB k l[i])[j]?:=by
 have e1:=List.getElem?_eq_getElem hi;have hlen:j< (cellsOf k l[i]).length:=by rw[a_];exact hj
 have e2:=List.getElem?_eq_getElem hlen;obtain⟨u,h1,h2⟩:=h i _ e1 j _ e2;obtain⟨v,h3,_⟩:=hk l[i] _ (List.getElem_mem hlen);rw[h1];unfold rB;rw[List.getElem?_map,e2];rw[h3]at h2 ⊢;rw[bu h2];rfl
theorem KC (hk:Em k){l:List k.T}{o:Nat}{cs:Array Value}(h:∀ i j,(hi:i<l.length)→j<aa k→cs[o+i*aa k+j]? =(rB k l[i])[j]?):RowAt F own w k l o cs:=by
 intro i x hi j s hj;obtain⟨hl,rfl⟩:=List.getElem?_eq_some_iff.1 hi;have hlen:=(List.getElem?_eq_some_iff.1 hj).1;rw[a_]at hlen;have:=h i j hl hlen;unfold rB at this;rw[List.getElem?_map,hj]at this;obtain⟨v,h3,_⟩:=hk _ s (List.mem_of_getElem? hj);subst h3;exact⟨v,this,.v v⟩
theorem P_ {w w':World}(hb:Go.RowKit.Below w.heap.size w w')(hd:w.drawn≤w'.drawn):∃ q os,w'=grow (w.drewN q) os:=by
 refine⟨w'.drawn - w.drawn,w'.heap.extract w.heap.size w'.heap.size,?_⟩;obtain⟨h1,h2,h3,h4,h5⟩:=hb;obtain⟨heap,tape,drawn,os,output⟩:=w;obtain⟨heap',tape',drawn',os',output'⟩:=w';simp only at h1 h2 h3 h4 h5 hd;subst h1;subst h2;subst h3;unfold grow World.drewN;simp only[World.mk.injEq,true_and,and_true];refine⟨?_,by omega⟩;apply Array.ext
 ·simp;omega
 ·intro i hi1 hi2;by_cases hi:i<heap.size
  ·rw[Array.getElem_append_left hi];have:=h5 i hi;rw[Array.getElem?_eq_getElem hi1,Array.getElem?_eq_getElem hi]at this;exact Option.some.inj this
  ·rw[Array.getElem_append_right (by omega)];simp only[Array.getElem_extract];congr 1;omega
end
section
variable {P:Program}{ρ:Ren}{k:Tag}
theorem Nc {w:World}{b:Nat}{cs:Array Value}{ty:TypeId}(hb:w.heap[b]? =some (.cells cs ty (0,0)))(D:Array Value)(o:Nat):(putRow id w b o D).heap[b]? =some (.cells (putCells id o D cs) ty (0,0)):=by
 unfold putRow mapBlock;simp only[Array.getElem?_modify,if_true,hb];rfl
theorem F7 {w:World}{b c:Nat}(hc:c≠b)(D:Array Value)(o:Nat):(putRow id w b o D).heap[c]? =w.heap[c]?:=by
 unfold putRow mapBlock;simp only[Array.getElem?_modify];rw[if_neg (fun e=>hc e.symm)]
theorem En {D cs:Array Value}{o t:Nat}(ht:t<D.size)(hs:o+t<cs.size):(putCells id o D cs)[o+t]? =D[t]?:=by
 unfold putCells;rw[Array.getElem?_mapIdx,Array.getElem?_eq_getElem hs];simp only[Option.map_some];rw[if_pos (by omega),Array.getElem?_eq_getElem ht];have:o+t - o=t:=by omega
 rw[this,getElem!_pos D t ht];rfl
theorem F8 {α:Type}[Inhabited α]{enc:α→List Value}{n:Nat}(hn:∀ x,(enc x).length=n){d:Array α}{i j:Nat}(hi:i<d.size)(hj:j<n):(flatK enc n d)[i*n+j]? =(enc d[i]!)[j]?:=by
 have hlt:i*n+j<d.size*n:=by
  have:=Nat.mul_le_mul_right n (show i+1≤d.size from hi);rw[Nat.succ_mul]at this;omega
 have h1:i*n+j< (flatK enc n d).size:=by rw[size_flatK];exact hlt
 rw[Array.getElem?_eq_getElem h1,←getElem!_pos (flatK enc n d) _ h1,get_flatK enc n d _ hlt];have hd:(i*n+j) / n=i:=by
  rw[Nat.mul_comm,Nat.mul_add_div (by omega),Nat.div_eq_of_lt hj];omega
 have hm:(i*n+j) % n=j:=by
  rw[Nat.mul_comm,Nat.mul_add_mod,Nat.mod_eq_of_lt hj]
 rw[hd,hm];have hj':j< (enc d[i]!).length:=by rw[hn];exact hj
 rw[List.getElem?_eq_getElem hj',getElem!_pos (enc d[i]!) j hj']
theorem sw_b {α:Type}[Inhabited α]{enc:α→List Value}{n b o m:Nat}{w:World}{cs:Array Value}{ty:TypeId}(hb:w.heap[b]? =some (.cells cs ty (0,0)))(d:Array α)(os:Array Obj):(sortWorldK enc n w b o m d os).heap[b]? =some (.cells (putCells id o (flatK enc n d) cs) ty (0,0)):=by
 have hlt:b<w.heap.size:=(Array.getElem?_eq_some_iff.1 hb).1;unfold sortWorldK grow;simp only;rw[Array.getElem?_append_left (by unfold putRowK putRow mapBlock Sort.ahead;simpa using hlt)];exact Nc (w:=Sort.ahead w m) hb _ _
theorem Q8 {α:Type}[Inhabited α]{enc:α→List Value}{n b o m c:Nat}{w:World}(hc:c<w.heap.size)(hne:c≠b)(d:Array α)(os:Array Obj):(sortWorldK enc n w b o m d os).heap[c]? =w.heap[c]?:=by
 unfold sortWorldK grow;simp only;rw[Array.getElem?_append_left (by unfold putRowK putRow mapBlock Sort.ahead;simpa using hc)];exact F7 (w:=Sort.ahead w m) hne _ _
theorem Eo {α:Type}[Inhabited α]{enc:α→List Value}{n b o m:Nat}{w:World}(d:Array α)(os:Array Obj):w.heap.size≤(sortWorldK enc n w b o m d os).heap.size:=by
 unfold sortWorldK grow putRowK putRow mapBlock Sort.ahead;simp
end
open Classical in
noncomputable def Dc (k:Tag)(g:FuncId)(caps:List SV)(cf:k.T→k.T→Int):List SV→List Ob→Option HCon:=fun l h=>
 PX k (fun l0=>match l with
  | [s0,.v (.int .i64 z),.v (.int .i64 n),.v (.int .i64 lim),f] =>if s0=.os 0∧f=.fn g [] caps then some (i5 (z=0∧n=(l0.length:Int)∧0≤lim∧lim<4611686018427387904∧apart cf l0) (.tup []) [.row k (srt cf l0)])else none
  |_=>none) h
@[go_sem] theorem Nd {k:Tag}{g:FuncId}{caps:List SV}{cf:k.T→k.T→Int}{l0:List k.T}{z n lim:Int}:Dc k g caps cf [.os 0,.v (.int .i64 z),.v (.int .i64 n),.v (.int .i64 lim),.fn g [] caps] [.row k l0]=some (i5 (z=0∧n=(l0.length:Int)∧0≤lim∧lim<4611686018427387904∧apart cf l0) (.tup []) [.row k (srt cf l0)]):=by
 simp[Dc,PX]
theorem Qa {k:Tag}{g:FuncId}{caps:List SV}{cf:k.T→k.T→Int}{l:List SV}{h:List Ob}{c:HCon}(e:Dc k g caps cf l h=some c):∃ (z n lim:Int) (l0:List k.T),l=[.os 0,.v (.int .i64 z),.v (.int .i64 n),.v (.int .i64 lim),.fn g [] caps]∧h=[.row k l0]∧c=i5 (z=0∧n=(l0.length:Int)∧0≤lim∧lim<4611686018427387904∧apart cf l0) (.tup []) [.row k (srt cf l0)]:=by
 unfold Dc at e;obtain⟨l0,hh,hK⟩:=MV e;split at hK
 ·rename_i s0 z n lim f;split at hK
  ·rename_i hq;obtain⟨rfl,rfl⟩:=hq;exact⟨z,n,lim,l0,rfl,hh,(Option.some.inj hK).symm⟩
  ·cases hK
 ·cases hK
section
variable {P:Program}{ρ:Ren}{k:Tag}
theorem KD {α:Type}[Inhabited α](L:SlLaysF0.n14 P ρ)(k:Nat)(aE:∀ w,(isAgg (ρ.t 24)).run P w=.ok true w)(zE:∀ w,(Go.sizeOf (ρ.t 24)).run P w=.ok k w)(enc:α→List Value)(hk:∀ x,(enc x).length=k)(h1:∀ x,∀ v∈enc x,v.oneCell'=true)(cf:α→α→Int)(hO:SWO (ltOf cf))(g:Nat)(cb:Array Value)(blk off cap:Nat)(d:Array α)(w:World)
  (eg:∀ args w,(callFunc g args).run P w=.ok (.enter g args) w) (hcmp:CmpLays P g cb enc k cf blk off d.size w) (hH:HoldsK enc k w blk off d) (hblk:blk<w.heap.size) (hsz:d.size<4611686018427387904) {lim:Nat} (hlim:lim<4611686018427387904):
  Calls P (ρ.f 14) #[.slice (some ⟨blk,off,none⟩) d.size cap,.int .i64 0,.int .i64 (d.size:Int),.int .i64 (lim:Int),.func (.func g) #[] cb] w fun e w'=>
   e=.returned (.tuple #[])∧∃ d' n os,PermIn 0 d.size d d'∧SortedIn (ltOf cf) 0 d.size d'∧w'=sortWorldK enc k w blk off n d' os:=by
 have hp:=AnyQ.pdqsortCmpFunc_all (P:=P) (ρ:=ρ) L k aE zE enc cf g cb hO blk off cap d w eg hcmp ⟨hk,h1,hH,hblk⟩ (d.size+1) 0 d.size lim d w (by omega) rfl (SWK.start hH) (Nat.zero_le _) (Nat.le_refl _) hsz hlim (Or.inl rfl);refine hp.mono fun e w' he=>?_;obtain⟨rfl,n,os,rfl⟩:=he;have h:=pdq_sorts (ltOf cf) hO d 0 d.size lim true true (Nat.zero_le _) (Nat.le_refl _) (Or.inl rfl);exact⟨rfl,_,n,os,h.1,h.2,rfl⟩
theorem Th (L:SlLaysF0.n14 P ρ)(aE:∀ w,(isAgg (ρ.t 24)).run P w=.ok true w)(zE:∀ w,(Go.sizeOf (ρ.t 24)).run P w=.ok (aa k) w)(hk:Em k)(h0:0<aa k){g:FuncId}{caps:List SV}{C:List SV→Option Con}(hC:FnOk P g C){cf:k.T→k.T→Int}
  (hcf:∀ x y,C (.agg (cellsOf k x):: .agg (cellsOf k y)::caps)=some (.det True (.v (.int .i64 (cf x y))))) (hO:SWO (ltOf cf)) (hpf:∀ s∈caps,PF s) (hcf0:∃ x y,C (.agg (cellsOf k x):: .agg (cellsOf k y)::caps)=some (.det True (.v (.int .i64 (cf x y))))):FnOkO P (ρ.f 14) (Dc k g caps cf):=by
 haveI:Inhabited k.T:=⟨fK k⟩
 refine⟨fun l h c hc args w=>L.f14.enters rfl args w,fun l h c hc hp F own w vs hHp hvs=>?_⟩;obtain⟨z,n,lim,l0,rfl,hh,hK⟩:=Qa hc;clear hc;subst hh;subst hK;obtain⟨rfl,rfl,hl0,hl1,hp⟩:=hp;obtain⟨hsz,hrel⟩:=hvs;have r0:=hrel 0 _ rfl;have r1:=hrel 4 _ rfl;have q1:=bu (hrel 1 _ rfl);have q2:=bu (hrel 2 _ rfl);have q3:=bu (hrel 3 _ rfl);have hvs2:vs= #[vs.getD 0 undef,.int .i64 0,.int .i64 (l0.length:Int),.int .i64 lim,vs.getD 4 undef]:=by
  apply Array.ext
  ·simpa using hsz
  ·intro i h1 h2;simp only[List.length_cons,List.length_nil]at hsz;match i,h1,h2 with
   |0,h1,_=>simp[Array.getD,h1]
   |1,h1,_=>rw[←q1];simp[Array.getD,h1]
   |2,h1,_=>rw[←q2];simp[Array.getD,h1]
   |3,h1,_=>rw[←q3];simp[Array.getD,h1]
   |4,h1,_=>simp[Array.getD,h1]
   |i+5,h1,_=>omega
 clear q1 q2 q3;generalize vs.getD 0 undef=v0 at r0 hvs2;generalize vs.getD 4 undef=v1 at r1 hvs2;subst hvs2;obtain⟨hd,o0,rfl,_⟩:=ir r0;obtain⟨hd',o0',hrow⟩:=hHp.at (id:=0) (o:=.row k l0) rfl rfl;rw[o0]at o0';cases o0';have hrow:RowRel F own w k l0 hd.v hd.bs:=hrow;cases r1 with
 | @fn _ _ _ us cs s1 s2 c1 c2=>
 have hus:us= #[]:=Array.eq_empty_of_size_eq_zero (by simpa using s1);subst hus;rcases hrow with⟨a,e1,rfl,e2⟩ | ⟨b,o,cap,cells,ty,e1,e2,e3,e4,e5,e6,e7⟩
 ·rw[e1];refine(AnyF.pdqsortCmpFunc_none L a 0 lim _ w).mono fun e w' he=>?_;obtain⟨rfl,rfl⟩:=he;refine⟨(),own,trivial,⟨_,rfl,.tup rfl fun j s hj=>by simp at hj⟩,?_,Fr.refl _,Nat.le_refl _⟩;have:srt cf ([]:List k.T)=[]:=by simp[srt]
  rw[this];exact hHp
 ·have hbown:b∈hd.bs:=by rw[e2];simp
  have hbw:b<w.heap.size:=hHp.lt 0 hd b o0 hbown;have hkl:∀ x:k.T,(rB k x).length=aa k:=fun x=>by unfold rB;rw[List.length_map,a_]
  have hone:∀ x:k.T,∀ v∈rB k x,v.oneCell'=true:=fun x v hv=>by
   unfold rB at hv;rw[List.mem_map]at hv;obtain⟨s,hs,rfl⟩:=hv;obtain⟨v,rfl,h1⟩:=hk x s hs;exact h1
  have eg:∀ args w,(callFunc g args).run P w=.ok (.enter g args) w:=fun args w=>by
   obtain⟨x,y,hxy⟩:=hcf0;exact hC.enter _ _ hxy args w
  have hown:∀ id h2,own id=some h2→id=0:=fun id h2 e=>by have:=hHp.dom id h2 e;simpa using this
  have hH:HoldsK (rB k) (aa k) w b o l0.toArray:=by
   intro t ht;rw[size_flatK]at ht;simp only[List.size_toArray]at ht;have hi:t / aa k<l0.length:=Nat.div_lt_of_lt_mul (by rw[Nat.mul_comm];exact ht);have hj:=Nat.mod_lt t h0;have ht':t=t / aa k*aa k+t % aa k:=(Nat.div_add_mod' t _).symm;have q1:=KB hk e7 hi hj;have q2:=F8 (enc:=rB k) hkl (d:=l0.toArray) (i:=t / aa k) (j:=t % aa k) (by simpa using hi) hj;rw[←ht']at q2;rw[Nat.add_assoc,←ht']at q1;have hl0:l0.toArray[t / aa k]! =l0[t / aa k]:=by rw[getElem!_pos l0.toArray _ (by simpa using hi)];rfl
   rw[hl0]at q2;have hlt:t< (flatK (rB k) (aa k) l0.toArray).size:=by rw[size_flatK];simpa using ht
   constructor
   ·unfold World.cell?;rw[e3];dsimp only;rw[q1,←q2,Array.getElem?_eq_getElem hlt,getElem!_pos _ t hlt];rfl
   ·unfold World.frozen?;rw[e3];simp
  have hcmp:CmpLays P g cs (rB k) (aa k) cf b o l0.toArray.size w:=by
   intro m os dk hdk x y;generalize hW:sortWorldK (rB k) (aa k) w b o m dk os=W;have hcar:Carries F own w F own W:=⟨fun _ h2 e=>⟨h2,e,.refl _⟩,fun c hc hn=>⟨hn,by
    rw[←hW];exact Q8 hc (fun e=>hn (.inr ⟨0,hd,o0,e▸hbown⟩)) _ _⟩⟩
   have henc:∀ z:k.T,Rel (fun _=>False) cj W (.agg (cellsOf k z)) (.agg (rB k z).toArray):=fun z=>by
    refine .agg (by simp[rB]) fun j s hj=>?_;obtain⟨v,rfl,_⟩:=hk z s (List.mem_of_getElem? hj);have:(rB k z).toArray.getD j undef=v:=by
     unfold rB;rw[Array.getD_eq_getD_getElem?,List.getElem?_toArray,List.getElem?_map,hj];rfl
    rw[this];exact .v v
   have hcall:=F6 (hC.calls _ _ (hcf x y) trivial (fun _=>False) W (#[.agg (rB k x).toArray,.agg (rB k y).toArray]++cs) (fun _ h=>h.elim) ⟨by simp[c1];omega,fun j s hj=>by
    match j,hj with
    |0,hj=>
     cases hj;rw[Array.getD_eq_getD_getElem?,Array.getElem?_append_left (by simp)];exact henc x
    |1,hj=>
     cases hj;rw[Array.getD_eq_getD_getElem?,Array.getElem?_append_left (by simp)];exact henc y
    |j+2,hj=>
     have hj:caps[j]? =some s:=hj;have:=((c2 j s hj).carry hcar).over (hpf s (List.mem_of_getElem? hj)) (F':=fun _=>False) (own':=cj) fun _ _ h=>by
      rcases h with h| ⟨_,_,h,_⟩
      ·exact h
      ·cases h
     have e:(#[Value.agg (rB k x).toArray,.agg (rB k y).toArray]++cs).getD (j+2) undef=cs.getD j undef:=by
      rw[Array.getD_eq_getD_getElem?,Array.getD_eq_getD_getElem?,Array.getElem?_append_right (by simp)];simp
     rw[e];exact this⟩)
   refine hcall.mono fun e w' hq=>?_;obtain⟨he,hdr⟩:=hq;rcases he with⟨s,u,own',hs,rfl,hh,hb⟩ | ⟨z,hz,_⟩
   ·simp only[df]at hs;subst hs;have:=hh.val;simp only[vL]at this;rw[bu this];exact⟨rfl,P_ hb (hdr (by simp))⟩
   ·exact hz.elim
  have hall:=KD L (aa k) aE zE (rB k) hkl hone cf hO g cs b o cap l0.toArray w eg hcmp hH hbw (by unfold aQ at e6;simp only[List.size_toArray];omega) (lim:=lim.toNat) (by omega);rw[Int.toNat_of_nonneg hl0]at hall;rw[e1];refine hall.mono fun e w' he=>?_;obtain⟨rfl,d',n,os,hpm,hst,rfl⟩:=he;have hd':=HZ hO hp hpm hst;subst hd';have hlS:(srt cf l0).length=l0.length:=List.length_mergeSort _;generalize srt cf l0=lS at hlS;have hsb:=sw_b (enc:=rB k) (n:=aa k) (o:=o) (m:=n) e3 lS.toArray os;refine⟨(),own,trivial,⟨_,rfl,.tup rfl fun j s hj=>by simp at hj⟩,?_,?_,Nat.le_refl _⟩
  ·refine⟨hHp.dom,fun c hc=>Nat.lt_of_lt_of_le (hHp.foreign c hc) (Eo _ _),hHp.apart,hHp.inj,fun i h2 c e hc=>Nat.lt_of_lt_of_le (hHp.lt i h2 c e hc) (Eo _ _),fun i hi=>?_⟩;match i,hi with
   |0,_=>
    refine⟨hd,o0,?_⟩;show RowRel F own _ k lS hd.v hd.bs;refine .inr ⟨b,o,cap,_,ty,by rw[hlS];exact e1,e2,hsb,?_,by omega,by omega,KC hk fun i j hi hj=>?_⟩
    ·unfold putCells;simpa using e4
    ·have hlt:i*aa k+j< (flatK (rB k) (aa k) lS.toArray).size:=by
      rw[size_flatK];have:=Nat.mul_le_mul_right (aa k) (show i+1≤lS.length from hi);rw[Nat.succ_mul]at this;simp only[List.size_toArray];omega
     have hle:o+(i*aa k+j) <cells.size:=by
      rw[size_flatK]at hlt;simp only[List.size_toArray]at hlt;have:=Nat.mul_le_mul_right (aa k) (show lS.length≤cap by omega);omega
     rw[Nat.add_assoc,En hlt hle,F8 hkl (by simpa using hi) hj];have:lS.toArray[i]! =lS[i]:=by rw[getElem!_pos lS.toArray _ (by simpa using hi)];rfl
     rw[this]
   |i+1,hi=>rw[ql (by simp)]at hi;cases hi
  ·refine⟨fun _ h2 e=>⟨h2,e,.refl _⟩,(Fr.refl { w:=w,own:=own}).base,rfl,rfl,rfl,Eo _ _,fun c hc=>?_⟩;exact Q8 hc.1 (fun e=>hc.2 ⟨0,hd,o0,e▸hbown⟩) _ _
end
end Go.Sx
end
section
namespace Go.Proofs
open Go.Shelf
def Tryz.sortLk_ren:Go.Shelf.Ren:=⟨fun|15=>144|14=>143|28=>199|29=>200|20=>191|21=>192|22=>193|23=>194|24=>195|25=>196|26=>197|27=>198|46=>224|47=>225|48=>226|49=>227|50=>228|57=>252|n=>n,fun|22=>32|24=>68|25=>119|3=>3|39=>211|0=>0|53=>262|55=>120|4=>4|46=>256|45=>255|50=>133|5=>5|9=>9|66=>277|70=>281|76=>296|77=>297|n=>n,fun|n=>n⟩
theorem Tryz.sortLk:Go.Proofs.SlLaysF0.n14 Tryz.prog Tryz.sortLk_ren:= {
 mixed:=by kernel_rfl
 f14:=⟨Tryz.f143.name,by decide,Tryz.func143.trans (congrArg some (by kernel_rfl))⟩
 f15:=Tryz.func144.trans (congrArg some (by kernel_rfl))
 f20:=⟨Tryz.f191.name,by decide,Tryz.func191.trans (congrArg some (by kernel_rfl))⟩
 f21:=⟨Tryz.f192.name,by decide,Tryz.func192.trans (congrArg some (by kernel_rfl))⟩
 f22:=⟨Tryz.f193.name,by decide,Tryz.func193.trans (congrArg some (by kernel_rfl))⟩
 f23:=⟨Tryz.f194.name,by decide,Tryz.func194.trans (congrArg some (by kernel_rfl))⟩
 f24:=⟨Tryz.f195.name,by decide,Tryz.func195.trans (congrArg some (by kernel_rfl))⟩
 f25:=⟨Tryz.f196.name,by decide,Tryz.func196.trans (congrArg some (by kernel_rfl))⟩
 f26:=⟨Tryz.f197.name,by decide,Tryz.func197.trans (congrArg some (by kernel_rfl))⟩
 f27:=⟨Tryz.f198.name,by decide,Tryz.func198.trans (congrArg some (by kernel_rfl))⟩
 f28:=Tryz.func199.trans (congrArg some (by kernel_rfl))
 f29:=Tryz.func200.trans (congrArg some (by kernel_rfl))
 f46:=⟨Tryz.f224.name,by decide,Tryz.func224.trans (congrArg some (by kernel_rfl))⟩
 f47:=Tryz.func225.trans (congrArg some (by kernel_rfl))
 f48:=Tryz.func226.trans (congrArg some (by kernel_rfl))
 f49:=⟨Tryz.f227.name,by decide,Tryz.func227.trans (congrArg some (by kernel_rfl))⟩
 f50:=⟨Tryz.f228.name,by decide,Tryz.func228.trans (congrArg some (by kernel_rfl))⟩
 f57:=⟨Tryz.f252.name,by decide,Tryz.func252.trans (congrArg some (by kernel_rfl))⟩
 t0:=Tryz.underlying0
 a0:=Tryz.isAgg0
 z0:=Tryz.sizeOf0
 v0:=Tryz.zeroValue0
 t3:=Tryz.underlying3
 a3:=Tryz.isAgg3
 z3:=Tryz.sizeOf3
 v3:=Tryz.zeroValue3
 t4:=Tryz.underlying4
 a4:=Tryz.isAgg4
 z4:=Tryz.sizeOf4
 v4:=Tryz.zeroValue4
 t5:=Tryz.underlying5
 a5:=Tryz.isAgg5
 z5:=Tryz.sizeOf5
 v5:=Tryz.zeroValue5
 t9:=Tryz.underlying9
 a9:=Tryz.isAgg9
 z9:=Tryz.sizeOf9
 v9:=Tryz.zeroValue9
 t22:=Tryz.underlying32
 a22:=Tryz.isAgg32
 z22:=Tryz.sizeOf32
 v22:=Tryz.zeroValue32
 t25:=Tryz.underlying119
 a25:=Tryz.isAgg119
 z25:=Tryz.sizeOf119
 v25:=Tryz.zeroValue119
 t39:=Tryz.underlying211
 a39:=Tryz.isAgg211
 z39:=Tryz.sizeOf211
 v39:=Tryz.zeroValue211
 t45:=Tryz.underlying255
 a45:=Tryz.isAgg255
 z45:=Tryz.sizeOf255
 v45:=Tryz.zeroValue255
 t46:=Tryz.underlying256
 a46:=Tryz.isAgg256
 z46:=Tryz.sizeOf256
 v46:=Tryz.zeroValue256
 t50:=Tryz.underlying133
 a50:=Tryz.isAgg133
 z50:=Tryz.sizeOf133
 v50:=Tryz.zeroValue133
 t53:=Tryz.underlying262
 a53:=Tryz.isAgg262
 z53:=Tryz.sizeOf262
 v53:=Tryz.zeroValue262
 t55:=Tryz.underlying120
 a55:=Tryz.isAgg120
 z55:=Tryz.sizeOf120
 v55:=Tryz.zeroValue120
 t66:=Tryz.underlying277
 a66:=Tryz.isAgg277
 z66:=Tryz.sizeOf277
 v66:=Tryz.zeroValue277
 t70:=Tryz.underlying281
 a70:=Tryz.isAgg281
 z70:=Tryz.sizeOf281
 v70:=Tryz.zeroValue281
 t76:=Tryz.underlying296
 a76:=Tryz.isAgg296
 z76:=Tryz.sizeOf296
 v76:=Tryz.zeroValue296
 t77:=Tryz.underlying297
 a77:=Tryz.isAgg297
 z77:=Tryz.sizeOf297
 v77:=Tryz.zeroValue297}
end Go.Proofs
end
section
namespace Go.Sx
open Go.Lib Go.Proofs Go.RowKit Go.Shelf Go.Sort
def tZ:List SV→Option Con:=pU fun n=>pE (.det (0≤n∧n<18446744073709551616) (.v (.int .i64 ((Go.Lib.bitLen n.toNat:Nat):Int))))
attribute [go_sem] tZ
theorem H0:FnOk Tryz.prog 144 tZ where
 enter:=fun l c h args w=>enters_of Tryz.sortLk.f15 kr rfl args w
 calls:=fun l c h hp F w vs hF hvs=>by
  unfold tZ at h;obtain⟨n,r,rfl,h0⟩:=yV h;obtain⟨rfl,rfl⟩:=Bk h0;obtain⟨p1,p2⟩:=hp;have q:=bu (hvs.2 0 _ rfl);have hv:vs= #[.int .u64 n]:=by
   apply Array.ext
   ·simpa using hvs.1
   ·intro i h1 h2;have:i=0:=by simp at h2;exact h2
    subst this;simp only[Array.getD,h1,dif_pos]at q;exact q
  subst hv;have:=Any.bits_Len (P:=Tryz.prog) (ρ:=Tryz.sortLk_ren.viaSlsf) (SlLaysF0.n15.bits (P:=Tryz.prog) (ρ:=Tryz.sortLk_ren) { Tryz.sortLk with}) n w p1 (by omega);refine this.mono fun e w' he=>?_;obtain⟨rfl,rfl⟩:=he;exact .inl ⟨_,_,cj,rfl,rfl,⟨uF hF,Rel.v _,fun _ _ _ e=>by cases e⟩,Below.refl _ _⟩
noncomputable def H1:List SV→List Ob→Option HCon:=Dc .claim 95 [] dw
@[go_sem] theorem Vu {l0:List Claim}{z n lim:Int}:H1 [.os 0,.v (.int .i64 z),.v (.int .i64 n),.v (.int .i64 lim),.fn 95 [] []] [.row .claim l0]=some (i5 (z=0∧n=(l0.length:Int)∧0≤lim∧lim<4611686018427387904∧apart dw l0) (.tup []) [.row .claim (srt dw l0)]):=Nd
theorem F9:Em .claim:=fun x s hs=>by
 simp only[cellsOf,List.mem_cons,List.not_mem_nil,or_false]at hs;rcases hs with rfl|rfl|rfl|rfl|rfl;all_goals exact⟨_,rfl,rfl⟩
theorem F_ (x y:Claim):rV (.agg (cellsOf .claim x):: .agg (cellsOf .claim y)::[])=some (.det True (.v (.int .i64 (dw x y)))):=by
 simp only[go_sem,Nat.reduceBEq]
theorem Qb:FnOkO Tryz.prog 143 H1:=
 Th (k:=.claim) Tryz.sortLk (fun w=>by kernel_rfl) (fun w=>by kernel_rfl) F9 (by decide) (g:=95) (caps:=[]) wF (cf:=dw) F_ FU (fun s hs=>by cases hs) ⟨default,default,F_ _ _⟩
end Go.Sx
end
section
namespace Go.Sx
open Go.Proofs
open IntKind (i64 u64)
theorem t8 {l0:List Nat}(a0:JL l0){p:Prop}(h:JL l0→p:=by intro ja;simp only[go_sem,Nat.reduceBEq,Nat.reduceLeDiff,Nat.reduceLT,decide_true,Nat.reduceAdd,Nat.reduceSub,Nat.reduceMul,Int.reduceLE,Int.reduceLT,Int.reduceToNat,Int.reduceNeg,reduceCtorEq];all_goals exact kF ja):p:=h a0
@[go_sem] def cO (s_:List Claim)(k_0:Nat)(s_0:Unit):Int⊕Unit:=(bif(an (s_.getD k_0 (default:Claim)))then .inl (k_0:Int)else .inr ())
def aj (s_:List Claim):Int:=(match aw (cO s_) s_.length 0 ()with| .inl x_0_0=>x_0_0| .inr s_0=>(-1))
@[go_sem] def fb:List SV→Option Con:=(pR .claim fun s_=>(pFn 93 (pE ((pE (.det True (.v (.int .i64 (aj s_)))))))))
theorem iK:FnOk Tryz.prog 142 fb:=by
 have hG:ConsOk Tryz.prog (mkG [(93,nZ)] []):=av (cgc rf cg0) cg0;refine ay [.o] mixed ap hG (fn:=Tryz.f142) (c:=ae Tryz.f142) kr kr kr kr (bY fun s_=>(bB (ak ((ak (fun hp=>?_))))));dsimp only[ax]at hp;refine⟨nbl rfl,(fun id st=>bif Nat.beq id 0 then some (LCR (ρ:=Int) (σ:=Unit) 0 [] [] (fun k_0 s_0=>⟨[(0,.rs .claim s_),(1,.fn 93 [] []),(7,.v (.int .i64 (s_.length:Int))),(8,.v (.int .i64 (k_0:Int)))],[]⟩) (cO s_) pT s_.length () (s_.length≤aQ) (fun _=>.ret) (fun x_0_0=>⟨[(4,.v (.int .i64 x_0_0))],[]⟩) st)else none),?_,?_⟩
 ·unfold ae Tryz.f142;simp only[aq,true_and,and_true]
  ·refine aY mixed ap hG kr (fun _=>rfl) (s_.length:Int) rfl im (fun hb0 k_0 s_0 hlt0 _ hw hc=>⟨L0,ah _,?_⟩) (fun hb0 s_0 hc=>?_)
   ·exact bZ (jl [])
   ·exact bQ (jl [])
 ·unfold ae Tryz.f142;try unfold aj
  exact zq1
@[go_sem] noncomputable def c6:List SV→Option Con:=fun l=>(orC (cU l) (fb l))
theorem iV:FnOk Tryz.prog 142 c6:=(FnOk.or eW iK)
@[go_sem] def aC (l_:List Claim)(k_0:Nat)(s_0:List Claim×Int×Int):(Int×List Claim)⊕(List Claim×Int×Int):=(bif(decide (s_0.2.2< (s_0.1.length:Int)))then(bif(!(an (s_0.1.getD (Int.toNat s_0.2.2) (default:Claim))))then .inr ((s_0.1.set (Int.toNat s_0.2.1) (s_0.1.getD (Int.toNat s_0.2.2) (default:Claim))),(i64.wrap (s_0.2.1+1)),(i64.wrap (s_0.2.2+1)))else .inr (s_0.1,s_0.2.1,(i64.wrap (s_0.2.2+1))))else .inl (s_0.2.1,s_0.1))
def aZ (l_:List Claim)(k_0:Nat)(s_0:List Claim×Int×Int):Prop:=(s_0.1.length≤aQ→((decide (s_0.2.2< (s_0.1.length:Int)))=true→((0≤s_0.2.2∧s_0.2.2< (s_0.1.length:Int))∧((!(an (s_0.1.getD (Int.toNat s_0.2.2) (default:Claim))))=true→(0≤s_0.2.1∧s_0.2.1< (s_0.1.length:Int))))))
def aH (l_:List Claim):List Claim:=(bif((aj l_) ==(-1))then l_ else(match aw (aC l_) (l_.length+1) 0 (l_,(aj l_),(i64.wrap ((aj l_)+1)))with| .inl x_0_0=>(((AD .claim x_0_0.2 x_0_0.1 (x_0_0.2.length:Int)).take (Int.toNat x_0_0.1)).drop 0) | .inr s_0=>default))
def aN (l_:List Claim):Prop:=(((aj l_) ==(-1))=false→(okI (aC l_) (aZ l_) (l_.length+1) 0 (l_,(aj l_),(i64.wrap ((aj l_)+1)))∧(∀ z_,aw (aC l_) (l_.length+1) 0 (l_,(aj l_),(i64.wrap ((aj l_)+1)))≠ .inr z_)∧(∀ x_0_0,aw (aC l_) (l_.length+1) 0 (l_,(aj l_),(i64.wrap ((aj l_)+1)))=.inl x_0_0→((0≤x_0_0.1∧x_0_0.1≤(x_0_0.2.length:Int))∧(0≤0∧0≤x_0_0.1∧x_0_0.1≤((AD .claim x_0_0.2 x_0_0.1 (x_0_0.2.length:Int)).length:Int))))))
noncomputable def c7:List SV→List Ob→Option HCon:=pL (fun x_:(List Claim) =>[.os 0,.fn 93 [] []]) (fun x_=>[.row .claim x_]) (fun x_=>i5 (aN x_) (.os 1) [.dead,.row .claim (aH x_)])
@[go_sem] theorem sr (l_:List Claim):c7 ([.os 0,.fn 93 [] []]) ([.row .claim l_])=some (i5 (aN l_) (.os 1) [.dead,.row .claim (aH l_)]):=mP (A:=fun x_:(List Claim) =>[.os 0,.fn 93 [] []]) (H:=fun x_=>[.row .claim x_]) (K:=fun x_=>i5 (aN x_) (.os 1) [.dead,.row .claim (aH x_)]) (x:=l_)
theorem zq45 {l0 l1:List Nat}(a0:JL l0)(a1:JL l1){p:Prop}(h:JL l0→JL l1→p:=by intro ja jb;simp only[go_sem,Nat.reduceBEq,Nat.reduceLeDiff,Nat.reduceLT,decide_true,Nat.reduceAdd,Nat.reduceSub,Nat.reduceMul,Int.reduceLE,Int.reduceLT,Int.reduceToNat,Int.reduceNeg,reduceCtorEq,c6];all_goals exact rU ja jb):p:=h a0 a1
theorem iW:FnOkO Tryz.prog 92 (c7):=by
 have hG:ConsOk Tryz.prog (mkG [(93,nZ),(142,fun l=>c6 (bA [.sl .claim,.o] l))] []):=av (cgc rf (cgc (iV.norm [.sl .claim,.o]) cg0)) cg0;refine oM mixed ap hG (fn:=Tryz.f92) (c:=ae Tryz.f92) kr kr kr kr fun l o con h=>?_;obtain⟨l_,rfl,rfl,rfl⟩:=ke h;clear h;try dsimp only
 refine⟨_,_,_,rfl,fun hp=>?_⟩;unfold aN at hp;refine⟨nbl rfl,(fun id st=>bif Nat.beq id 0 then some (LCV (ρ:=(Int×List Claim)) (σ:=(List Claim×Int×Int)) 1 [] [0] (fun k_0 s_0=>⟨[(0,.os 0),(1,.fn 93 [] []),(5,.v (.int .i64 s_0.2.1)),(6,.v (.int .i64 s_0.2.2))],[.row .claim s_0.1]⟩) (aC l_) (aZ l_) (l_.length+1) (l_,(aj l_),(i64.wrap ((aj l_)+1))) (fun _=>.normal) (fun x_0_0=>⟨[(0,.os 0),(5,.v (.int .i64 x_0_0.1))],[.row .claim x_0_0.2]⟩) st)else none),?_,?_⟩
 ·unfold ae Tryz.f92;simp only[aq,true_and,and_true,and_assoc]
  ·refine tT mixed ap hG kr (fun _=>rfl) fun k_0 s_0 hq0=>⟨L0,ah _,?_⟩
   ·unfold aZ at hq0;exact t8 (jl [0])
 ·unfold ae Tryz.f92;try unfold aH
  exact zq45 (jl [0,0]) (jl [0,1])
def a7 (l_:List Claim):List Claim:=(srt dw l_)
def aV (l_:List Claim):Prop:=(l_.length≤aQ→((0≤(u64.wrap (l_.length:Int))∧(u64.wrap (l_.length:Int)) <18446744073709551616)∧(0=0∧(l_.length:Int)=(l_.length:Int)∧0≤((Go.Lib.bitLen (Int.toNat (u64.wrap (l_.length:Int))):Nat):Int)∧((Go.Lib.bitLen (Int.toNat (u64.wrap (l_.length:Int))):Nat):Int) <4611686018427387904∧apart dw l_)))
noncomputable def dz:List SV→List Ob→Option HCon:=pL (fun x_:(List Claim) =>[.os 0,.fn 95 [] []]) (fun x_=>[.row .claim x_]) (fun x_=>i5 (aV x_) (.tup []) [.row .claim (a7 x_)])
@[go_sem] theorem sV (l_:List Claim):dz ([.os 0,.fn 95 [] []]) ([.row .claim l_])=some (i5 (aV l_) (.tup []) [.row .claim (a7 l_)]):=mP (A:=fun x_:(List Claim) =>[.os 0,.fn 95 [] []]) (H:=fun x_=>[.row .claim x_]) (K:=fun x_=>i5 (aV x_) (.tup []) [.row .claim (a7 x_)]) (x:=l_)
theorem zq46 {l0:List Nat}(a0:JL l0){p:Prop}(h:JL l0→p:=by intro ja;simp only[go_sem,Nat.reduceBEq,Nat.reduceLeDiff,Nat.reduceLT,decide_true,Nat.reduceAdd,Nat.reduceSub,Nat.reduceMul,Int.reduceLE,Int.reduceLT,Int.reduceToNat,Int.reduceNeg,reduceCtorEq,tZ];all_goals exact kF ja):p:=h a0
theorem jp:FnOkO Tryz.prog 94 (dz):=by
 have hG:ConsOk Tryz.prog (mkG [(144,tZ)] [(143,H1)]):=av (cgc H0 cg0) (cgc Qb cg0);refine oM mixed ap hG (fn:=Tryz.f94) (c:=ae Tryz.f94) kr kr kr kr fun l o con h=>?_;obtain⟨l_,rfl,rfl,rfl⟩:=ke h;clear h;try dsimp only
 refine⟨_,_,_,rfl,fun hp=>?_⟩;unfold aV at hp;refine⟨nbl rfl,L0,?_,?_⟩
 ·unfold ae Tryz.f94;simp only[aq,and_self,true_and,and_true]
 ·unfold ae Tryz.f94;try unfold a7
  exact zq46 (jl [0])
def cF (l_:List Claim):List Claim:=(a7 (aH l_))
def b8 (l_:List Claim):Prop:=((aN l_)∧(aV (aH l_)))
noncomputable def pN:List SV→List Ob→Option HCon:=pL (fun x_:(List Claim) =>[.os 0]) (fun x_=>[.row .claim x_]) (fun x_=>i5 (b8 x_) (.os 1) [.dead,.row .claim (cF x_)])
@[go_sem] theorem GI (l_:List Claim):pN ([.os 0]) ([.row .claim l_])=some (i5 (b8 l_) (.os 1) [.dead,.row .claim (cF l_)]):=mP (A:=fun x_:(List Claim) =>[.os 0]) (H:=fun x_=>[.row .claim x_]) (K:=fun x_=>i5 (b8 x_) (.os 1) [.dead,.row .claim (cF x_)]) (x:=l_)
theorem yk:FnOkO Tryz.prog 47 (pN):=by
 have hG:ConsOk Tryz.prog (mkG [] [(92,c7),(94,dz)]):=av cg0 (cgc iW (cgc jp cg0));refine oM mixed ap hG (fn:=Tryz.f47) (c:=ae Tryz.f47) kr kr kr kr fun l o con h=>?_;obtain⟨l_,rfl,rfl,rfl⟩:=ke h;clear h;try dsimp only
 refine⟨_,_,_,rfl,fun hp=>?_⟩;unfold b8 at hp;refine⟨nbl rfl,L0,?_,?_⟩
 ·unfold ae Tryz.f47;simp only[aq,and_self,true_and,and_true]
 ·unfold ae Tryz.f47;try unfold cF
  exact t8 (jl [0,1])
@[go_sem] def cP (x:Judgement)(l_:List Claim)(k_0:Nat)(s_0:List Claim×Int):Empty⊕(List Claim×Int):=(bif((s_0.1.getD k_0 (default:Claim)).farm==x.farm)then .inr ((s_0.1.set k_0 ({ right:=(s_0.1.getD k_0 (default:Claim)).right,farm:=(s_0.1.getD k_0 (default:Claim)).farm,hour:=(s_0.1.getD k_0 (default:Claim)).hour,litres:=(if s_0.2< (s_0.1.getD k_0 (default:Claim)).litres then s_0.2 else(s_0.1.getD k_0 (default:Claim)).litres),rank:=(s_0.1.getD k_0 (default:Claim)).rank}:Claim)),(i64.wrap (s_0.2 - ((s_0.1.set k_0 ({ right:=(s_0.1.getD k_0 (default:Claim)).right,farm:=(s_0.1.getD k_0 (default:Claim)).farm,hour:=(s_0.1.getD k_0 (default:Claim)).hour,litres:=(if s_0.2< (s_0.1.getD k_0 (default:Claim)).litres then s_0.2 else(s_0.1.getD k_0 (default:Claim)).litres),rank:=(s_0.1.getD k_0 (default:Claim)).rank}:Claim)).getD k_0 (default:Claim)).litres)))else .inr (s_0.1,s_0.2))
def eC (x:Judgement)(l_:List Claim)(k_0:Nat)(s_0:List Claim×Int):Prop:=((0≤(k_0:Int)∧(k_0:Int) < (s_0.1.length:Int))∧(((s_0.1.getD k_0 (default:Claim)).farm==x.farm)=true→((0≤(k_0:Int)∧(k_0:Int) < (s_0.1.length:Int))∧((0≤(k_0:Int)∧(k_0:Int) < (s_0.1.length:Int))∧(0≤(k_0:Int)∧(k_0:Int) < ((s_0.1.set k_0 ({ right:=(s_0.1.getD k_0 (default:Claim)).right,farm:=(s_0.1.getD k_0 (default:Claim)).farm,hour:=(s_0.1.getD k_0 (default:Claim)).hour,litres:=(if s_0.2< (s_0.1.getD k_0 (default:Claim)).litres then s_0.2 else(s_0.1.getD k_0 (default:Claim)).litres),rank:=(s_0.1.getD k_0 (default:Claim)).rank}:Claim)).length:Int))))))
def bi (x:Judgement)(l_:List Claim):List Claim:=(match aw (cP x l_) l_.length 0 (l_,x.n)with| .inl x=>x.elim| .inr s_0=>s_0.1)
def bO (x:Judgement)(l_:List Claim):Prop:=(l_.length≤aQ→okI (cP x l_) (eC x l_) l_.length 0 (l_,x.n))
noncomputable def i7:List SV→List Ob→Option HCon:=pL (fun x_:Judgement×(List Claim) =>[.os 0,.agg (cellsOf .judgement x_.1)]) (fun x_=>[.row .claim x_.2]) (fun x_=>i5 (bO x_.1 x_.2) (.os 0) [.row .claim (bi x_.1 x_.2)])
@[go_sem] theorem Ai (x:Judgement)(l_:List Claim):i7 ([.os 0,.agg [.v (.int .i64 x.no),.v (.int .i64 x.hour),.v (.int .i64 x.kind),.v (.int .i64 x.farm),.v (.int .i64 x.other),.v (.int .i64 x.since),.v (.int .i64 x.to),.v (.int .i64 x.n),.v (.int .i64 x.of_)]]) ([.row .claim l_])=some (i5 (bO x l_) (.os 0) [.row .claim (bi x l_)]):=mP (A:=fun x_:Judgement×(List Claim) =>[.os 0,.agg (cellsOf .judgement x_.1)]) (H:=fun x_=>[.row .claim x_.2]) (K:=fun x_=>i5 (bO x_.1 x_.2) (.os 0) [.row .claim (bi x_.1 x_.2)]) (x:=(x,l_))
theorem sw:FnOkO Tryz.prog 88 (i7):=by
 have hG:ConsOk Tryz.prog (mkG [] []):=av cg0 cg0;refine oM mixed ap hG (fn:=Tryz.f88) (c:=ae Tryz.f88) kr kr kr kr fun l o con h=>?_;obtain⟨⟨x,l_⟩,rfl,rfl,rfl⟩:=ke h;clear h;try dsimp only
 refine⟨_,_,_,rfl,fun hp=>?_⟩;unfold bO at hp;refine⟨nbl rfl,(fun id st=>bif Nat.beq id 0 then some (LCR (ρ:=Empty) (σ:=(List Claim×Int)) 2 [] [0,1] (fun k_0 s_0=>⟨[(0,.os 0),(3,.ptr 1 0),(5,.v (.int .i64 s_0.2)),(10,.v (.int .i64 (l_.length:Int))),(11,.v (.int .i64 (k_0:Int)))],[.row .claim s_0.1,.cells (cellsOf .judgement x)]⟩) (cP x l_) (eC x l_) l_.length (l_,x.n) (l_.length≤aQ) ((·.elim)) ((·.elim)) st)else none),?_,?_⟩
 ·unfold ae Tryz.f88;simp only[aq,true_and,and_true,and_assoc]
  ·refine aY mixed ap hG kr (fun _=>rfl) (l_.length:Int) rfl im (fun hb0 k_0 s_0 hlt0 hq0 hw hc=>⟨L0,ah _,?_⟩) (fun hb0 s_0 hc=>?_)
   ·unfold eC at hq0;try simp only[hw,Int.toNat_natCast]at hq0
    exact bZ (jl [0,1])
   ·exact bQ (jl [0,1])
 ·unfold ae Tryz.f88;try unfold bi
  exact t8 (jl [0])
def u7 (x:Judgement)(l_:List Claim):Unit:=()
noncomputable def jE:List SV→List Ob→Option HCon:=pL (fun x_:Judgement×(List Claim) =>[.os 0,.agg (cellsOf .judgement x_.1)]) (fun x_=>[.row .claim x_.2]) (fun x_=>i5 True (.os 0) [.row .claim x_.2])
@[go_sem] theorem BL (x:Judgement)(l_:List Claim):jE ([.os 0,.agg [.v (.int .i64 x.no),.v (.int .i64 x.hour),.v (.int .i64 x.kind),.v (.int .i64 x.farm),.v (.int .i64 x.other),.v (.int .i64 x.since),.v (.int .i64 x.to),.v (.int .i64 x.n),.v (.int .i64 x.of_)]]) ([.row .claim l_])=some (i5 True (.os 0) [.row .claim l_]):=mP (A:=fun x_:Judgement×(List Claim) =>[.os 0,.agg (cellsOf .judgement x_.1)]) (H:=fun x_=>[.row .claim x_.2]) (K:=fun x_=>i5 True (.os 0) [.row .claim x_.2]) (x:=(x,l_))
theorem tp:FnOkO Tryz.prog 90 (jE):=by
 have hG:ConsOk Tryz.prog (mkG [] []):=av cg0 cg0;refine oM mixed ap hG (fn:=Tryz.f90) (c:=ae Tryz.f90) kr kr kr kr fun l o con h=>?_;obtain⟨⟨x,l_⟩,rfl,rfl,rfl⟩:=ke h;clear h;try dsimp only
 refine⟨_,_,_,rfl,fun hp=>?_⟩;refine⟨nbl rfl,L0,?_,?_⟩
 ·unfold ae Tryz.f90;simp only[aq,and_self,true_and,and_true]
 ·unfold ae Tryz.f90;try unfold u7
  exact t8 (jl [0])
@[go_sem] theorem Zj {f:FuncId}:yJ (.fn f [] [])=some [.fn f [] []]:=(rfl)
theorem KE {κ υ:Type}[DecidableEq κ](l:List (κ×υ))(x z:κ)(y:υ):jT (vr l x y) z=if z=x then some y else jT l z:=by
 induction l with
 |nil=>simp[vr,jT]
 |cons a r ih=>
  obtain⟨a,b⟩:=a;unfold vr;by_cases h:x=a
  ·subst h;simp only[if_pos];unfold jT;by_cases hz:z=x <;>simp[hz]
  ·rw[if_neg h];unfold jT;by_cases hz:z=a
   ·subst hz;rw[if_pos rfl,if_neg (fun e=>h e.symm),if_pos rfl]
   ·rw[if_neg hz,ih,if_neg hz]
def ft:List (Int×(Option Nat)):=(lr .int .fnc (lr .int .fnc (lr .int .fnc (lr .int .fnc ([]) 1 (some 88)) 2 (some 88)) 3 (some 89)) 4 (some 90))
@[go_sem] def sW:List SV→Option Con:=(pE (.det True (.nm .int .fnc (ft))))
theorem xB:FnOk Tryz.prog 42 sW:=by
 have hG:ConsOk Tryz.prog (mkG [] []):=av cg0 cg0;refine Ef [] mixed ap hG (fn:=Tryz.f42) (c:=ae Tryz.f42) kr kr kr kr (ak (fun hp=>?_));dsimp only[ax]at hp;refine⟨nbl rfl,L0,ah _,?_⟩
 ·unfold ae Tryz.f42;try unfold ft
  exact zq1
theorem pO (k:Int):fZ .int .fnc ft k=bif k==1 then some 88 else bif k==2 then some 88 else bif k==3 then some 89 else bif k==4 then some 90 else none:=by
 by_cases h1:k=1
 ·subst h1;rfl
 by_cases h2:k=2
 ·subst h2;rfl
 by_cases h3:k=3
 ·subst h3;rfl
 by_cases h4:k=4
 ·subst h4;rfl
 have e1:(k==1)=false:=by simpa using h1
 have e2:(k==2)=false:=by simpa using h2
 have e3:(k==3)=false:=by simpa using h3
 have e4:(k==4)=false:=by simpa using h4
 rw[e1,e2,e3,e4];simp only[ft,fZ,lr,KE,if_neg h1,if_neg h2,if_neg h3,if_neg h4];rfl
end Go.Sx
end
section
namespace Go.Sx
open Go.RowKit
open IntKind (i64)
abbrev RF:= { r:Nat→Res // ∀ k,(r k).n=k}
def KF (items:List (List SV))(r:RF):List SV→Res→Option YCon:=itY items r.1
@[go_sem] theorem Zk {items:List (List SV)}{r:RF}{k:Nat}{args:List SV}:KF items r args (r.1 (k+1))=some (FN (items[k]? =some args) r.1 (k+2)):=Mf r.2 k args
section
variable {ρ σ:Type}
def lcy (pre:Prop)(run:ρ⊕σ)(exE:ρ→Ex)(outE:ρ→St)(outN:σ→St)(stp:St):LCon where
 α:=Option (ρ⊕σ)
 pre:=pre
 post:=fun|none=>True|some r=>r=run
 ex:=fun|none=>.ret|some (.inl x) =>exE x|some (.inr _) =>.normal
 out:=fun|none=>stp|some (.inl x) =>outE x|some (.inr s) =>outN s
def LCY (m:Nat)(ns:List NLoc)(js:List Nat)(D:Nat→σ→St)(step:Nat→σ→ρ⊕σ)(p:Nat→σ→Prop)(n:Nat)(s0:σ)(B:Prop)(exE:ρ→Ex)(outE:ρ→St)(stp:St)(st:St):LCon:=
 lcy (uI m ns js st (D 0 s0)∧B∧okI step p n 0 s0) (aw step n 0 s0) exE outE (D n) stp
def Ti (m:Nat)(ns:List NLoc)(js:List Nat)(D:Nat→σ→St)(step:Nat→σ→ρ⊕σ)(p:Nat→σ→Prop)(n:Nat)(s0:σ)(exE:ρ→Ex)(outE:ρ→St)(stp:St)(st:St):LCon:=
 lcy (uI m ns js st (D 0 s0)∧okI step p n 0 s0∧∀ s,aw step n 0 s0≠ .inr s) (aw step n 0 s0) exE outE (D n) stp
variable {m:Nat}{ns:List NLoc}{js:List Nat}{step:Nat→σ→ρ⊕σ}{p:Nat→σ→Prop}{n:Nat}{s0:σ}{B:Prop}{exE:ρ→Ex}{outE:ρ→St}{stp st:St}{Q:Ex→St→Prop}{D:Nat→σ→St}
theorem Dd {pre:Prop}{run:ρ⊕σ}{outN:σ→St}:rL Q (some (lcy pre run exE outE outN stp))=(pre∧(∀ x,run=.inl x→Q (exE x) (outE x))∧(∀ s,run=.inr s→Q .normal (outN s))∧Q .ret stp):=by
 apply propext;constructor
 ·rintro⟨h1,h2⟩;exact⟨h1,fun x hx=>h2 (some (.inl x)) hx.symm,fun s hs=>h2 (some (.inr s)) hs.symm,h2 none trivial⟩
 ·rintro⟨h1,h2,h3,h4⟩;refine⟨h1,fun r hr=>?_⟩;match r,hr with
  |none,_=>exact h4
  |some (.inl x),hr=>exact h2 x hr.symm
  |some (.inr s),hr=>exact h3 s hr.symm
@[go_sem] theorem Vv:rL Q (some (LCY m ns js D step p n s0 B exE outE stp st))=((uI m ns js st (D 0 s0)∧B∧okI step p n 0 s0)∧(∀ x,aw step n 0 s0=.inl x→Q (exE x) (outE x))∧(∀ s,aw step n 0 s0=.inr s→Q .normal (D n s))∧Q .ret stp):=Dd
@[go_sem] theorem Tj:rL Q (some (Ti m ns js D step p n s0 exE outE stp st))=((uI m ns js st (D 0 s0)∧okI step p n 0 s0∧∀ s,aw step n 0 s0≠ .inr s)∧(∀ x,aw step n 0 s0=.inl x→Q (exE x) (outE x))∧Q .ret stp):=by
 refine Dd.trans ?_;apply propext;constructor
 ·rintro⟨h1,h2,_,h4⟩;exact⟨h1,h2,h4⟩
 ·rintro⟨h1,h2,h4⟩;exact⟨h1,h2,fun s hs=>absurd hs (h1.2.2 s),h4⟩
def cY (step:Nat→σ→ρ⊕σ)(exE:ρ→Ex)(outE:ρ→St)(D:Nat→σ→St)(stp:St)(m id k:Nat)(s:σ):Ex→St→Prop
 | .normal,st=>tS D m k st (step k s)
 | .exit j,st=>nC exE outE m (bif Nat.beq j id then .normal else .exit j) st (step k s)
 | .ret,st=>nC exE outE m .ret st (step k s)∨i4 stp m st
 | .pan x,st=>nC exE outE m (.pan x) st (step k s)
variable {id k j:Nat}{s:σ}{x:Value}{e e':Ex}
@[go_sem] theorem Vw:cY step exE outE D stp m id k s .normal st=tS D m k st (step k s):=(rfl)
@[go_sem] theorem Zl:cY step exE outE D stp m id k s (.exit j) st=nC exE outE m (bif Nat.beq j id then .normal else .exit j) st (step k s):=(rfl)
@[go_sem] theorem aal:cY step exE outE D stp m id k s .ret st=(nC exE outE m .ret st (step k s)∨i4 stp m st):=(rfl)
@[go_sem] theorem aam:cY step exE outE D stp m id k s (.pan x) st=nC exE outE m (.pan x) st (step k s):=(rfl)
@[congr] theorem Xs {st':St}(h:st=st')(he:e=e'):cY step exE outE D stp m id k s e st=cY step exE outE D stp m id k s e' st':=by rw[h,he]
end
section
variable {P:Program}{ρ σ:Type}{ts:Tis}{G:Cons}{ro:Option Nat}{N:Nat}{id:Nat}{c:Code}{C:St→Option LCon}{m:Nat}{ns:List NLoc}{js:List Nat}{step:Nat→σ→ρ⊕σ}{p:Nat→σ→Prop}{n:Nat}{s0:σ}{exE:ρ→Ex}{outE:ρ→St}{D:Nat→σ→St}{stp:St}
theorem Nf {n0:Nat}(hn0:n0=m){s:σ}{k:Nat}(hlt:k<n){I:Nat×σ→Prop}{μ:Nat×σ→Nat}{outN:σ→St}{pre:Prop}{run:ρ⊕σ}
  (hI:∀ s',step k s=.inr s'→I (k+1,s')∧μ (k+1,s') <μ (k,s)) (hx:∀ x,step k s=.inl x→run=.inl x):
  ∀ e st',cY step exE outE D stp m id k s e st'→ur (fun x:Nat×σ=>D x.1 x.2) I μ n0 (k,s) id (fun e st'=>∃ r js,(lcy pre run exE outE outN stp).post r∧(lcy pre run exE outE outN stp).ex r=e∧n0≤((lcy pre run exE outE outN stp).out r).h.length∧Sub js n0 st' ((lcy pre run exE outE outN stp).out r)) e st':=by
 subst hn0;have hfin:∀ e st',nC exE outE n0 e st' (step k s)→∃ r js,(lcy pre run exE outE outN stp).post r∧(lcy pre run exE outE outN stp).ex r=e∧n0≤((lcy pre run exE outE outN stp).out r).h.length∧Sub js n0 st' ((lcy pre run exE outE outN stp).out r):=by
  intro e st' q;cases hs:step k s with
  |inr s'=>rw[hs]at q;exact q.elim
  |inl x=>
   rw[hs]at q;obtain⟨q2,js,q3,q4⟩:=q;exact⟨some (.inl x),js,(hx x hs).symm,q2,q3,q4⟩
 intro e st' hq;cases e with
 |normal=>
  change tS D n0 k st' (step k s)at hq;cases hs:step k s with
  |inl x=>rw[hs]at hq;exact hq.elim
  |inr s'=>
   rw[hs]at hq;obtain⟨js,q3,q4⟩:=hq;obtain⟨i1,i2⟩:=hI s' hs;exact⟨(k+1,s'),js,i1,i2,q3,q4⟩
 |exit j=>
  change nC exE outE n0 (bif Nat.beq j id then .normal else .exit j) st' (step k s)at hq;show bif Nat.beq j id then _ else _;cases hb:Nat.beq j id with
  |true=>rw[hb]at hq;exact hfin _ _ hq
  |false=>rw[hb]at hq;exact hfin _ _ hq
 |ret=>
  rcases hq with hq|hq
  ·exact hfin _ _ hq
  ·obtain⟨js,q3,q4⟩:=hq;exact⟨none,js,trivial,rfl,q3,q4⟩
 |pan x=>exact hfin _ _ hq
theorem Ng {B:Prop}(hm:P.follows .mixedOrders=true)(hts:ts.ok P)(hG:ConsOk P G)(hc:cg N c=true)(hC:∀ st,C st=some (LCY m ns js D step p n s0 B exE outE stp st))(M:Int)(hn:n=M.toNat)(hB:B→M<9223372036854775808)
  (h:B→∀ k s,k<n→p k s→i64.wrap ((k:Int)+1)=((k+1:Nat):Int)→decide ((k:Int) <M)=true→∃ L,aq P ro N L c∧exec ts G L c (D k s) (cY step exE outE D stp m id k s))
  (h2:B→∀ s,decide ((n:Int) <M)=false→exec ts G L0 c (D n s) (cZ (D n s) m id)):lR P ro N id (.loop c) C:=by
 refine vP hm hts hG hc fun st lc hC' hp=>?_;rw[hC st]at hC';cases hC';obtain⟨⟨hlen,hok,hle,hsub⟩,hB',h1⟩:=hp;refine⟨Nat×σ,fun x=>D x.1 x.2,fun x=>x.1≤n∧okI step p (n - x.1) x.1 x.2∧aw step (n - x.1) x.1 x.2=aw step n 0 s0,fun x=>n - x.1,(0,s0),mkN ns st,js,⟨Nat.zero_le _,by simpa using h1,by simp⟩,xp ns st st (.refl _) hok,by rw[hlen];exact hle,by rw[hlen];exact hsub,?_⟩;rintro⟨k,s⟩ ⟨hk,hJ,hrun⟩;simp only at hk hJ hrun;rcases Nat.lt_or_ge k n with hlt|hge
 ·rw[show n - k=(n - k - 1)+1 by omega]at hrun hJ;obtain⟨L,hl,hex⟩:=h hB' k s hlt hJ.1 (Mj (hn▸hlt) (hB hB')) (decide_eq_true (by omega));have hI:∀ s',step k s=.inr s'→okI step p (n - (k+1)) (k+1) s'∧aw step (n - (k+1)) (k+1) s'=aw step n 0 s0:=fun s' hs=>by
   have:=hJ.2 s' hs;rw[show n - k - 1=n - (k+1) by omega]at this hrun;simp only[aw,hs]at hrun;exact⟨this,hrun⟩
  have hx:∀ x,step k s=.inl x→aw step n 0 s0=.inl x:=fun x hs=>by
   simp only[aw,hs]at hrun;exact hrun.symm
  exact⟨L,_,hl,fun e st' q=>Nf hlen hlt (fun s' hs=>⟨⟨hlt,hI s' hs⟩,by simp only;omega⟩) hx e st' q,hex⟩
 ·have hkn:k=n:=by omega
  subst hkn;have hex:=h2 hB' s (by rw[decide_eq_false_iff_not];omega);refine⟨L0,_,ah c,fun e st' hq=>?_,hex⟩;simp only[Nat.sub_self,aw]at hrun;cases e with
  |exit j=>
   change bif Nat.beq j id then i4 (D k s) m st' else False at hq;show bif Nat.beq j id then _ else _;cases hb:Nat.beq j id with
   |true=>
    rw[hb]at hq;obtain⟨js,q3,q4⟩:=hq;exact⟨some (.inr s),js,hrun,rfl,by rw[hlen];exact q3,by rw[hlen];exact q4⟩
   |false=>rw[hb]at hq;exact hq.elim
  |_=>exact hq.elim
theorem KG (hm:P.follows .mixedOrders=true)(hts:ts.ok P)(hG:ConsOk P G)(hc:cg N c=true)(hC:∀ st,C st=some (Ti m ns js D step p n s0 exE outE stp st))
  (h:∀ k s,p k s→∃ L,aq P ro N L c∧exec ts G L c (D k s) (cY step exE outE D stp m id k s)):lR P ro N id (.loop c) C:=by
 refine vP hm hts hG hc fun st lc hC' hp=>?_;rw[hC st]at hC';cases hC';obtain⟨⟨hlen,hok,hle,hsub⟩,h1,hno⟩:=hp;refine⟨Nat×σ,fun x=>D x.1 x.2,fun x=>x.1≤n∧okI step p (n - x.1) x.1 x.2∧aw step (n - x.1) x.1 x.2=aw step n 0 s0,fun x=>n - x.1,(0,s0),mkN ns st,js,⟨Nat.zero_le _,by simpa using h1,by simp⟩,xp ns st st (.refl _) hok,by rw[hlen];exact hle,by rw[hlen];exact hsub,?_⟩;rintro⟨k,s⟩ ⟨hk,hJ,hrun⟩;simp only at hk hJ hrun;rcases Nat.lt_or_ge k n with hlt|hge
 ·rw[show n - k=(n - k - 1)+1 by omega]at hrun hJ;obtain⟨L,hl,hex⟩:=h k s hJ.1;have hI:∀ s',step k s=.inr s'→okI step p (n - (k+1)) (k+1) s'∧aw step (n - (k+1)) (k+1) s'=aw step n 0 s0:=fun s' hs=>by
   have:=hJ.2 s' hs;rw[show n - k - 1=n - (k+1) by omega]at this hrun;simp only[aw,hs]at hrun;exact⟨this,hrun⟩
  have hx:∀ x,step k s=.inl x→aw step n 0 s0=.inl x:=fun x hs=>by
   simp only[aw,hs]at hrun;exact hrun.symm
  exact⟨L,_,hl,fun e st' q=>Nf hlen hlt (fun s' hs=>⟨⟨hlt,hI s' hs⟩,by simp only;omega⟩) hx e st' q,hex⟩
 ·have hkn:k=n:=by omega
  subst hkn;simp only[Nat.sub_self,aw]at hrun;exact absurd hrun.symm (hno s)
end
def qu (n:Nat):List Ob:=List.replicate n .dead
def Nh (items:List (List SV))(r:RF)(n:Nat):Ex→St→Prop
 | .normal,st=>i4 ⟨[],.ab (r.1 0)::qu n⟩ (n+1) ⟨[],st.h⟩∨i4 ⟨[],.ab (r.1 (items.length+1))::qu n⟩ (n+1) ⟨[],st.h⟩
 | .ret,st=>i4 ⟨[],.ab (r.1 0)::qu n⟩ (n+1) ⟨[],st.h⟩∨i4 ⟨[],.ab (r.1 (items.length+1))::qu n⟩ (n+1) ⟨[],st.h⟩
 |_,_=>False
section
variable {items:List (List SV)}{r:RF}{n:Nat}{st:St}{e e':Ex}
@[go_sem] theorem Qc:Nh items r n .normal st=(i4 ⟨[],.ab (r.1 0)::qu n⟩ (n+1) ⟨[],st.h⟩∨i4 ⟨[],.ab (r.1 (items.length+1))::qu n⟩ (n+1) ⟨[],st.h⟩):=(rfl)
@[go_sem] theorem Vx:Nh items r n .ret st=(i4 ⟨[],.ab (r.1 0)::qu n⟩ (n+1) ⟨[],st.h⟩∨i4 ⟨[],.ab (r.1 (items.length+1))::qu n⟩ (n+1) ⟨[],st.h⟩):=(rfl)
@[go_sem] theorem Zm:qu 0=[]:=(rfl)
@[go_sem] theorem Zn:qu 1=[.dead]:=(rfl)
@[go_sem] theorem Zo:qu 2=[.dead,.dead]:=(rfl)
@[go_sem] theorem Zp:qu 3=[.dead,.dead,.dead]:=(rfl)
@[go_sem] theorem Zq:qu 4=[.dead,.dead,.dead,.dead]:=(rfl)
end
theorem Ga {js:List Nat}{n0:Nat}{h h':List Ob}(q:Sub js n0 ⟨[],h⟩ ⟨[],h'⟩):Sub js n0 ⟨[(0,.tup [])],h⟩ ⟨[(0,.tup [])],h'⟩:=by
 refine⟨q.1,?_,q.2.2⟩;simp only[JN,lk];exact⟨⟨rfl,rfl⟩,trivial⟩
open Classical in
theorem Ni {P:Program} {ts:Tis} {G:RF→Cons} (hm:P.follows .mixedOrders=true) (hts:ts.ok P) {f:FuncId} {fn:Func} {c:Code} (hf:P.funcs[f]? =some fn) (hb:fn.body=some c) (hname:(fn.name== "runtime.NumGoroutine")=false) (hc:cg fn.ntmps c=true) (hr:fn.results.toList=[])
  {items:List (List SV)} {mk:SV→List SV} {hs:List Ob} {n:Nat} (hn:hs.length=n)
  (h:∀ r:RF,YOk P (KF items r)→ConsOk P (G r)∧(mk (.os 0)).length≤fn.ntmps∧∃ L,aq P none fn.ntmps L c∧exec ts (G r) L c ⟨lM 0 (mk (.os 0)),.ab (r.1 1)::hs⟩ (Nh items r n))
  (he:∀ (args:Array Value) (w:World),(callFunc f args).run P w=.ok (.enter f args) w):FM P f mk hs items:=by
 refine Q1 (fun r0 hr0 hy=>?_) he;obtain⟨hG,h1,L,h2,h3⟩:=h ⟨r0,hr0⟩ hy;refine⟨fun l o=>if l=mk (.os 0)∧o=.ab (r0 1)::hs then some { α:=Bool,pre:=True,post:=fun _=>True,res:=fun b=>.ret (.tup []) (.ab (r0 (if b then items.length+1 else 0))::qu n)}else none,?_,_,if_pos ⟨rfl,rfl⟩,trivial,fun b _=>⟨_,_,_,rfl,by cases b <;>simp⟩⟩;refine Bj hm hts hG hf hb hname hc fun l o con hC _=>?_;split at hC
 rotate_left
 ·cases hC
 rename_i hlo;obtain⟨rfl,rfl⟩:=hlo;cases hC;refine⟨h1,L,_,h2,fun e st hq=>?_,h3⟩;have key:∀ st:St,(i4 ⟨[],.ab (r0 0)::qu n⟩ (n+1) ⟨[],st.h⟩∨i4 ⟨[],.ab (r0 (items.length+1))::qu n⟩ (n+1) ⟨[],st.h⟩)→xR (Ob.ab (r0 1)::hs).length { α:=Bool,pre:=True,post:=fun _=>True,res:=fun b=>.ret (.tup []) (.ab (r0 (if b then items.length+1 else 0))::qu n)} (kD (jv ts st fn.results.toList)) st.h:=fun st q=>by
  rw[hr];show ∃ r s' h' js,_;rcases q with⟨js,q1,q2⟩ | ⟨js,q1,q2⟩
  ·exact⟨false,_,_,js,trivial,rfl,by rw[List.length_cons,hn];exact q1,by rw[List.length_cons,hn];exact Ga q2⟩
  ·exact⟨true,_,_,js,trivial,rfl,by rw[List.length_cons,hn];exact q1,by rw[List.length_cons,hn];exact Ga q2⟩
 cases e with
 |normal=>exact key st hq
 |ret=>exact key st hq
 |exit j=>exact hq.elim
 |pan x=>exact hq.elim
section
variable {ρ σ τ:Type}
variable {m:Nat}{ns:List NLoc}{js:List Nat}{step:τ→σ→ρ⊕σ}{p:τ→σ→Prop}{l:List τ}{s0:σ}{exE:ρ→Ex}{outE:ρ→St}{outN:σ→St}{st:St}{Q:Ex→St→Prop}{D:List Nat→Option Nat→σ→St}
variable {P:Program}{ts:Tis}{G:Cons}{ro:Option Nat}{N id:Nat}{c:Code}{C:St→Option LCon}
end
theorem fkY {st2 st:St}{n0:Nat}{js:List Nat}(_:JL js)(h1:n0≤st2.h.length:=by(first|(show _≤_;decide) |(simp only[*,go_sem,Nat.reduceBEq,Nat.reduceLeDiff,Nat.reduceAdd,Nat.reduceSub,Nat.reduceMul,Int.reduceLE,Int.reduceLT,Int.reduceToNat,Int.reduceNeg,reduceCtorEq];done) |(simp only[*,go_sem,Nat.reduceBEq,Nat.reduceLeDiff,Nat.reduceAdd,Nat.reduceSub,Nat.reduceMul,Int.reduceLE,Int.reduceLT,Int.reduceToNat,Int.reduceNeg,reduceCtorEq];(repeat' (first|with_reducible refine And.intro ?_ ?_|((with_reducible show _≠_);first|assumption|omega|(simp_all [d9,fA];done) |grind) |with_reducible intro _)) <;>(first|rfl|decide|assumption|omega|(simp_all [d9,fA];done) |fail))))(h2:Sub js n0 st st2:=by(first|(show _≤_;decide) |(simp only[*,go_sem,Nat.reduceBEq,Nat.reduceLeDiff,Nat.reduceAdd,Nat.reduceSub,Nat.reduceMul,Int.reduceLE,Int.reduceLT,Int.reduceToNat,Int.reduceNeg,reduceCtorEq];done) |(simp only[*,go_sem,Nat.reduceBEq,Nat.reduceLeDiff,Nat.reduceAdd,Nat.reduceSub,Nat.reduceMul,Int.reduceLE,Int.reduceLT,Int.reduceToNat,Int.reduceNeg,reduceCtorEq];(repeat' (first|with_reducible refine And.intro ?_ ?_|((with_reducible show _≠_);first|assumption|omega|(simp_all [d9,fA];done) |grind) |with_reducible intro _)) <;>(first|rfl|decide|assumption|omega|(simp_all [d9,fA];done) |fail)))):i4 st2 n0 st:=D_ js h1 h2
theorem Tk {α:Type 1}{G:List SV→α→Prop}{X:SV}{k:List SV→Option α}(h:∀ l c,k l=some c→G (X::l) c):∀ l c,pQ X k l=some c→G l c:=fun l c hc=>by
 obtain⟨r,rfl,h1⟩:=SZ hc;exact h r c h1
end Go.Sx
end
section
namespace Go.Sx
@[go_sem ↓] theorem Vy (x:Reach):mkE .reach [.v (.string x.name),.v (.int .i64 x.up),.v (.int .i64 x.delay),.v (.int .i64 x.cap),.v (.int .i64 x.bank),.v (.int .i64 x.siphon),.v (.int .i64 x.evap.lo),.v (.int .i64 x.evap.hi),.v (.int .i64 x.seep.1.n),.v (.int .i64 x.seep.1.d),.v (.int .i64 x.seep.2.n),.v (.int .i64 x.seep.2.d)]=x:=(rfl)
@[go_sem ↓] theorem Vz (x:Claim):mkE .claim [.v (.int .i64 x.right),.v (.int .i64 x.farm),.v (.int .i64 x.hour),.v (.int .i64 x.litres),.v (.int .i64 x.rank)]=x:=(rfl)
@[go_sem ↓] theorem VA (x:Order):mkE .order [.v (.int .i64 x.hour),.v (.int .i64 x.index),.v (.int .i64 x.litres),.v (.bool x.outlet)]=x:=(rfl)
@[go_sem ↓] theorem Xt (x:Tank):mkE .tank [.v (.int .i64 x.cap),.v (.int .i64 x.start)]=x:=(rfl)
@[go_sem ↓] theorem N5 (x:Judgement):mkE .judgement [.v (.int .i64 x.no),.v (.int .i64 x.hour),.v (.int .i64 x.kind),.v (.int .i64 x.farm),.v (.int .i64 x.other),.v (.int .i64 x.since),.v (.int .i64 x.to),.v (.int .i64 x.n),.v (.int .i64 x.of_)]=x:=(rfl)
@[go_sem ↓] theorem Xu (x:Case):mkE .case [.v (.int .i64 x.no),.v (.int .i64 x.hour),.v (.int .i64 x.winner),.rs .int x.facts,.rs .int x.reason]=x:=(rfl)
@[go_sem ↓] theorem Tl (x:Clause):mkE .clause [.v (.int .i64 x.no),.v (.int .i64 x.then_),.v (.int .i64 x.rank),.v (.bool x.strict),.rs .int x.if_]=x:=(rfl)
@[go_sem ↓] theorem Tm (x:Reason):mkE .reason [.v (.int .i64 x.literal),.v (.int .i64 x.clause),.v (.bool x.proved)]=x:=(rfl)
@[go_sem ↓] theorem Xv (x:Farm):mkE .farm [.v (.string x.name),.v (.int .i64 x.reach),.v (.int .i64 x.area),.v (.int .i64 x.crop)]=x:=(rfl)
@[go_sem ↓] theorem VB (x:Right):mkE .right [.v (.string x.name),.v (.int .i64 x.kind),.v (.int .i64 x.farm),.v (.int .i64 x.reach),.v (.int .i64 x.rank),.v (.int .i64 x.litres),.v (.int .i64 x.since),.v (.int .i64 x.to),.v (.int .i64 x.every),.v (.int .i64 x.length)]=x:=(rfl)
theorem Gb {p:Pk}{f:FuncId}{a b:List SV}:ta [p] (.fn f a b)=yG p (.fn f a b):=(rfl)
theorem Gc {f:FuncId}{a b:List SV}:yG .o (.fn f a b)=.fn f a b:=(rfl)
end Go.Sx
end
section
namespace Go.Sx
open Go.Proofs
theorem BM {l0:List Nat}(a0:JL l0){p:Prop}(h:JL l0→p:=by intro ja;(first|done|(repeat' (first|with_reducible refine And.intro ?_ ?_|((with_reducible show _≠_);first|assumption|omega|(simp_all [d9,fA];done) |grind) |with_reducible intro _)) <;>(first|done|with_reducible exact Empty.elim ‹Empty› |with_reducible assumption|rfl|omega|assumption|decide|exact fk ja|(refine Or.inr ?_;exact fkY ja) |(refine Or.inl ?_;exact fkY ja) |(refine Or.inl ⟨rfl,?_⟩;exact fkY ja) |exact czl|(simp only[*,cond_true,cond_false,Bool.not_true,Bool.not_false,go_sem,Nat.reduceBEq,Nat.reduceLeDiff,Nat.reduceLT,decide_true,Nat.reduceAdd,Nat.reduceSub,Nat.reduceMul,Int.reduceLE,Int.reduceLT,Int.reduceToNat,Int.reduceNeg,reduceCtorEq];(repeat' (first|with_reducible refine And.intro ?_ ?_|((with_reducible show _≠_);first|assumption|omega|(simp_all [d9,fA];done) |grind) |with_reducible intro _)) <;>(first|done|assumption|rfl|omega|decide|exact fk ja|(refine Or.inr ?_;exact fkY ja) |(refine Or.inl ?_;exact fkY ja) |(refine Or.inl ⟨rfl,?_⟩;exact fkY ja) |(simp_all [d9,fA];done))) |(exfalso;rename_i h1 h2;rw[h1]at h2;cases h2) |(exfalso;rename_i h1 h2;simp only[h1,Bool.not_false,Bool.not_true,Bool.true_or,Bool.or_true,Bool.false_or,Bool.or_false,reduceCtorEq]at h2;done) |(exfalso;clear hy hG;simp_all;done) |(simp only[*,Sum.inr.injEq,forall_eq',true_implies,forall_const,reduceCtorEq,false_implies,and_true,List.length_append,List.length_cons,List.length_nil,Nat.zero_add,go_sem,Nat.reduceBEq,Nat.reduceLeDiff,Nat.reduceLT,decide_true,Nat.reduceAdd,Nat.reduceSub,Nat.reduceMul,Int.reduceLE,Int.reduceLT,Int.reduceToNat,Int.reduceNeg,reduceCtorEq]at hq2;first|exact hq2.1|exact hq2.2.1|exact hq2|exact hq2.2|(simp only[hq2];done)) |(simp only[*,Sum.inr.injEq,forall_eq',true_implies,forall_const,reduceCtorEq,false_implies,and_true,List.length_append,List.length_cons,List.length_nil,Nat.zero_add,go_sem,Nat.reduceBEq,Nat.reduceLeDiff,Nat.reduceLT,decide_true,Nat.reduceAdd,Nat.reduceSub,Nat.reduceMul,Int.reduceLE,Int.reduceLT,Int.reduceToNat,Int.reduceNeg,reduceCtorEq]at hq1;first|exact hq1.1|exact hq1.2.1|exact hq1|exact hq1.2|(simp only[hq1];done)) |(clear hy hG;simp_all only[d9,fA,Sum.inr.injEq,forall_eq',true_implies,forall_const,reduceCtorEq,false_implies,and_true,List.length_append,List.length_cons,List.length_nil,Nat.zero_add,go_sem,Nat.reduceBEq,Nat.reduceLeDiff,Nat.reduceLT,decide_true,Nat.reduceAdd,Nat.reduceSub,Nat.reduceMul,Int.reduceLE,Int.reduceLT,Int.reduceToNat,Int.reduceNeg,reduceCtorEq];done) |(simp_all [okI,d9,fA];done) |(simp_all [d9,fA];(first|done|exact fk2 ja)) |exact fk2 ja))):p:=h a0
theorem Nj {l0:List Nat}(a0:JL l0){p:Prop}(h:JL l0→p:=by intro ja;simp only[go_sem,Nat.reduceBEq,Nat.reduceLeDiff,Nat.reduceLT,decide_true,Nat.reduceAdd,Nat.reduceSub,Nat.reduceMul,Int.reduceLE,Int.reduceLT,Int.reduceToNat,Int.reduceNeg,reduceCtorEq,hc,hw];all_goals exact BM ja):p:=h a0
theorem Nk {l0:List Nat}(a0:JL l0){p:Prop}(h:JL l0→p:=by intro ja;simp only[go_sem,Nat.reduceBEq,Nat.reduceLeDiff,Nat.reduceLT,decide_true,Nat.reduceAdd,Nat.reduceSub,Nat.reduceMul,Int.reduceLE,Int.reduceLT,Int.reduceToNat,Int.reduceNeg,reduceCtorEq,hc];all_goals exact BM ja):p:=h a0
@[go_sem] def tq (x:Judgement):List SV:=[.agg (cellsOf .judgement x)]
@[go_sem] def ri:List SV→Option Con:=(pR .judgement fun j=>(pI fun hour=>(pE (.det True (.fn 91 [] [.ep [.rs .judgement j] 0,.ep [.v (.int .i64 hour)] 0])))))
theorem wd:FnOk Tryz.prog 46 ri:=by
 have hG:ConsOk Tryz.prog (mkG [] []):=av cg0 cg0;refine ay [.o] mixed ap hG (fn:=Tryz.f46) (c:=ae Tryz.f46) kr kr kr kr (bY fun j=>(dh fun hour=>(ak (fun hp=>?_))));refine⟨nbl rfl,L0,ah _,?_⟩;unfold ae Tryz.f46;simp only[go_sem,Gb,Gc,Nat.reduceBEq,Nat.reduceLeDiff,Nat.reduceAdd,Nat.reduceSub,Nat.reduceMul]
@[go_sem] def cV (j:List Judgement)(hour:Int)(k_0:Nat)(s_0:List Judgement):Empty⊕(List Judgement):=(bif(((((j.getD k_0 (default:Judgement)).of_==0)&&(decide ((j.getD k_0 (default:Judgement)).hour≤hour)))&&(aG hour ((j.getD k_0 (default:Judgement)).since) ((j.getD k_0 (default:Judgement)).to)))&&(!(dY j (j.getD k_0 (default:Judgement)) hour)))then .inr (s_0++[(j.getD k_0 (default:Judgement))])else .inr s_0)
def fj (j:List Judgement)(hour:Int)(items_:List (List SV))(k_0:Nat)(s_0:List Judgement):Prop:=(((((((j.getD k_0 (default:Judgement)).of_==0)&&(decide ((j.getD k_0 (default:Judgement)).hour≤hour)))&&(aG hour ((j.getD k_0 (default:Judgement)).since) ((j.getD k_0 (default:Judgement)).to)))&&(!(dY j (j.getD k_0 (default:Judgement)) hour)))=true→(items_[s_0.length]? =some (tq (j.getD k_0 (default:Judgement)))))∧((((((j.getD k_0 (default:Judgement)).of_==0)&&(decide ((j.getD k_0 (default:Judgement)).hour≤hour)))&&(aG hour ((j.getD k_0 (default:Judgement)).since) ((j.getD k_0 (default:Judgement)).to)))&&(!(dY j (j.getD k_0 (default:Judgement)) hour)))=false→((((((j.getD k_0 (default:Judgement)).of_==0)&&(decide ((j.getD k_0 (default:Judgement)).hour≤hour)))&&(aG hour ((j.getD k_0 (default:Judgement)).since) ((j.getD k_0 (default:Judgement)).to)))&&(!(dY j (j.getD k_0 (default:Judgement)) hour)))=false)))
def az (j:List Judgement)(hour:Int):List Judgement:=(match aw (cV j hour) j.length 0 ([]:List Judgement)with| .inl x=>x.elim| .inr s_0=>s_0)
def gz (j:List Judgement)(hour:Int)(items_:List (List SV)):Prop:=(j.length≤aQ→(okI (cV j hour) (fj j hour items_) j.length 0 ([]:List Judgement)∧(∀ s_0,aw (cV j hour) j.length 0 ([]:List Judgement)=.inr s_0→(items_.length=s_0.length))))
theorem Tn {l0:List Nat}(a0:JL l0){p:Prop}(h:JL l0→p:=by intro ja;simp only[go_sem,Nat.reduceBEq,Nat.reduceLeDiff,Nat.reduceLT,decide_true,Nat.reduceAdd,Nat.reduceSub,Nat.reduceMul,Int.reduceLE,Int.reduceLT,Int.reduceToNat,Int.reduceNeg,reduceCtorEq];all_goals exact BM ja):p:=h a0
theorem uL (j:List Judgement)(hour:Int)(items_:List (List SV))(hp:gz j hour items_):FM Tryz.prog 91 (fun y=>[y,.ep [.rs .judgement j] 0,.ep [.v (.int .i64 hour)] 0]) [] items_:=by
 unfold gz at hp;refine Ni mixed ap (fn:=Tryz.f91) (c:=ae Tryz.f91) kr kr kr kr rfl (n:=0) rfl (G:=fun r_=>D8 [(52,f9),(53,fun l=>lA (bA [.sl .judgement,.st .judgement,.o] l))] [] (KF items_ r_)) (fun r_ hy=>?_) (fun args w=>by kernel_rfl);have hG:ConsOk Tryz.prog (D8 [(52,f9),(53,fun l=>lA (bA [.sl .judgement,.st .judgement,.o] l))] [] (KF items_ r_)):=D9 (cgc g6 (cgc (rY.norm [.sl .judgement,.st .judgement,.o]) cg0)) cg0 hy;refine⟨hG,nbl rfl,(fun id st=>bif Nat.beq id 0 then some (LCY (ρ:=Empty) (σ:=(List Judgement)) 1 [] [0] (fun k_0 s_0=>⟨[(0,.os 0),(1,.ep [.rs .judgement j] 0),(2,.ep [.v (.int .i64 hour)] 0),(6,.rs .judgement j),(7,.v (.int .i64 (j.length:Int))),(8,.v (.int .i64 (k_0:Int)))],[.ab (r_.1 (s_0.length+1))]⟩) (cV j hour) (fj j hour items_) j.length ([]:List Judgement) (j.length≤aQ) ((·.elim)) ((·.elim)) ⟨[],[.ab (r_.1 0)]⟩ st)else none),?_,?_⟩
 ·unfold ae Tryz.f91;simp only[aq,true_and,and_true]
  ·refine Ng mixed ap hG kr (fun _=>rfl) (j.length:Int) rfl im (fun hb0 k_0 s_0 hlt0 hq0 hw hc=>⟨L0,ah _,?_⟩) (fun hb0 s_0 hc=>?_)
   ·unfold fj at hq0;try simp only[hw,Int.toNat_natCast]at hq0
    exact Nj (jl [0])
   ·exact Nk (jl [0])
 ·unfold ae Tryz.f91;exact Tn (jl [0])
end Go.Sx
end
